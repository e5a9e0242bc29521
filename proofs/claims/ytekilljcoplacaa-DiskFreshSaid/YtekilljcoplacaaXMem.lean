/- Generic ground: what memory holds: a list of parts that share no block ('Sat'), and how it turns. -/
import Derived.Test.YtekilljcoplacaaXCode
namespace Go.Proofs.Ytekilljcoplacaa.X
set_option linter.unusedVariables false
set_option linter.unusedSimpArgs false

abbrev HMap := Nat → Option Obj
abbrev Assn := HMap → Prop

/-- What of a world no function here turns. -/
structure Gh where
  os : Os
  tape : Nat → Question → Nat
  output : Array (Nat × ByteArray)

def ghOf (w : World) : Gh := ⟨w.os, w.tape, w.output⟩

/-- Block 'b' holds 'o'. -/
def pt (b : Nat) (o : Obj) : Assn := fun h => h b = some o

def apartH (h1 h2 : HMap) : Prop := ∀ b, h1 b = none ∨ h2 b = none
def union (h1 h2 : HMap) : HMap := fun b => (h1 b).or (h2 b)

/-- All of a list, in parts that share no block. -/
def all : List Assn → Assn
  | [], _ => True
  | A :: r, h => ∃ h1 h2, apartH h1 h2 ∧ (∀ b o, (union h1 h2) b = some o → h b = some o) ∧ A h1 ∧ all r h2

def Sat (g : Gh) (L : List Assn) (w : World) : Prop := ghOf w = g ∧ ∃ h : HMap, (∀ b o, h b = some o → w.heap[b]? = some o) ∧ all L h

/-- 'L' is 'A' and 'R', but for the order. -/
inductive Pick (A : Assn) : List Assn → List Assn → Prop where
  | here {R} : Pick A (A :: R) R
  | there {B L R} (h : Pick A L R) : Pick A (B :: L) (B :: R)

theorem all_mono {L : List Assn} {h h' : HMap} (hh : ∀ b o, h b = some o → h' b = some o) (ha : all L h) : all L h' := by
  cases L with
  | nil => trivial
  | cons A r => obtain ⟨h1, h2, hd, hu, h3, h4⟩ := ha; exact ⟨h1, h2, hd, fun b o hb => hh b o (hu b o hb), h3, h4⟩

theorem union_left {h1 h2 : HMap} {b : Nat} {o : Obj} (h : h1 b = some o) : union h1 h2 b = some o := by simp [union, h]
theorem union_right {h1 h2 : HMap} (hd : apartH h1 h2) {b : Nat} {o : Obj} (h : h2 b = some o) : union h1 h2 b = some o := by
  have : h1 b = none := (hd b).resolve_right (by simp [h])
  simp [union, this, h]
theorem union_cases {h1 h2 : HMap} {b : Nat} {o : Obj} (h : union h1 h2 b = some o) : h1 b = some o ∨ h2 b = some o := by
  unfold union at h
  cases e : h1 b with
  | none => rw [e] at h; simp at h; exact .inr h
  | some x => rw [e] at h; simp at h; exact .inl (by rw [h])

theorem all_swap {A B : Assn} {R : List Assn} {h : HMap} (ha : all (A :: B :: R) h) : all (B :: A :: R) h := by
  obtain ⟨h1, h2, hd, hu, hA, h3, h4, hd', hu', hB, hR⟩ := ha
  have e : ∀ b o, h3 b = some o → h2 b = some o := fun b o hb => hu' b o (union_left hb)
  have e' : ∀ b o, h4 b = some o → h2 b = some o := fun b o hb => hu' b o (union_right hd' hb)
  have none_of : ∀ {x y : HMap}, (∀ b o, x b = some o → y b = some o) → ∀ b, y b = none → x b = none := fun hxy b hy => by
    cases hx : (_ : HMap) b with
    | none => exact hx
    | some o => rw [hxy b o hx] at hy; cases hy
  have d14 : apartH h1 h4 := fun b => (hd b).imp id (none_of e' b)
  have d13 : apartH h1 h3 := fun b => (hd b).imp id (none_of e b)
  refine ⟨h3, union h1 h4, fun b => ?_, fun b o hb => ?_, hB, h1, h4, d14, fun b o hb => hb, hA, hR⟩
  · cases x3 : h3 b with
    | none => exact .inl rfl
    | some o =>
      refine .inr ?_
      have y1 : h1 b = none := (d13 b).resolve_right (by simp [x3])
      have y4 : h4 b = none := (hd' b).resolve_left (by simp [x3])
      simp [union, y1, y4]
  · rcases union_cases hb with hb | hb
    · exact hu b o (union_right hd (e b o hb))
    · rcases union_cases hb with hb | hb
      · exact hu b o (union_left hb)
      · exact hu b o (union_right hd (e' b o hb))

theorem all_single {A : Assn} {h : HMap} (ha : A h) : all [A] h := by
  refine ⟨h, fun _ => none, fun b => .inr rfl, fun b o hb => ?_, ha, trivial⟩
  rcases union_cases hb with h | h
  · exact h
  · cases h

theorem all_cons_mono {A : Assn} {L L' : List Assn} (hh : ∀ h, all L h → all L' h) {h : HMap} (ha : all (A :: L) h) : all (A :: L') h := by
  obtain ⟨h1, h2, hd, hu, hA, hL⟩ := ha; exact ⟨h1, h2, hd, hu, hA, hh _ hL⟩

theorem all_pick {A : Assn} {L R : List Assn} (p : Pick A L R) : ∀ h, all L h → all (A :: R) h := by
  induction p with
  | here => exact fun _ h => h
  | there _ ih => exact fun h ha => all_swap (all_cons_mono ih ha)

theorem all_unpick {A : Assn} {L R : List Assn} (p : Pick A L R) : ∀ h, all (A :: R) h → all L h := by
  induction p with
  | here => exact fun _ h => h
  | there _ ih => exact fun h ha => all_cons_mono ih (all_swap ha)

section
variable {g : Gh} {L R L' : List Assn} {A B : Assn} {w : World} {b : Nat} {o : Obj}

theorem Sat.mono (hh : ∀ h, all L h → all L' h) (h : Sat g L w) : Sat g L' w := ⟨h.1, let ⟨x, h1, h2⟩ := h.2; ⟨x, h1, hh _ h2⟩⟩
/-- A part comes to the front. -/
theorem Sat.pick (h : Sat g L w) (p : Pick A L R) : Sat g (A :: R) w := h.mono (all_pick p)
/-- Several parts come to the front, in this order. -/
inductive Picks : List Assn → List Assn → List Assn → Prop where
  | nil {L : List Assn} : Picks [] L L
  | cons {A : Assn} {As L M R : List Assn} (h : Pick A L M) (h' : Picks As M R) : Picks (A :: As) L R
theorem Sat.of_eq (h : Sat g L w) (e : L = L') : Sat g L' w := e ▸ h
theorem Sat.unpick (h : Sat g (A :: R) w) (p : Pick A L R) : Sat g L w := h.mono (all_unpick p)
theorem Sat.cons_mono (hh : ∀ h, A h → B h) (h : Sat g (A :: R) w) : Sat g (B :: R) w :=
  h.mono (L := A :: R) (L' := B :: R) fun _ ⟨h1, h2, hd, hu, hA, hR⟩ => ⟨h1, h2, hd, hu, hh _ hA, hR⟩
theorem Sat.tail (h : Sat g (A :: R) w) : Sat g R w := ⟨h.1, let ⟨x, hx, h1, h2, hd, hu, _, hR⟩ := h.2; ⟨h2, fun b o hb => hx b o (hu b o (union_right hd hb)), hR⟩⟩
/-- A part is dropped. -/
theorem Sat.drop (h : Sat g L w) (p : Pick A L R) : Sat g R w := (h.pick p).tail
theorem Sat.head (h : Sat g (A :: R) w) : Sat g [A] w := ⟨h.1, let ⟨x, hx, h1, h2, hd, hu, hA, _⟩ := h.2
  ⟨h1, fun b o hb => hx b o (hu b o (union_left hb)), all_single hA⟩⟩

theorem Sat.pt_head (h : Sat g (pt b o :: R) w) : w.heap[b]? = some o := by
  obtain ⟨_, x, hx, h1, h2, hd, hu, hA, _⟩ := h
  exact hx b o (hu b o (union_left hA))
theorem Sat.pt (h : Sat g L w) (p : Pick (X.pt b o) L R) : w.heap[b]? = some o := (h.pick p).pt_head

/-- Two parts that say what a block holds speak of two blocks. -/
theorem Sat.ne {c : Nat} {o' : Obj} (h : Sat g (X.pt b o :: X.pt c o' :: R) w) : b ≠ c := by
  obtain ⟨_, x, hx, h1, h2, hd, hu, hA, h3, h4, hd', hu', hB, _⟩ := h
  rintro rfl
  have h1b : h1 b = some o := hA
  have h2b : h2 b = some o' := hu' b o' (union_left hB)
  rcases hd b with h | h
  · rw [h1b] at h; cases h
  · rw [h2b] at h; cases h

theorem Sat.size (h : Sat g (X.pt b o :: R) w) : b < w.heap.size := by
  have := h.pt_head
  exact (Array.getElem?_eq_some_iff.1 this).1

/-- The count of draws is no part. -/
theorem Sat.drawn (h : Sat g L w) (n : Nat) : Sat g L { w with drawn := n } := h

/-- A new block. -/
theorem Sat.push (h : Sat g L w) (o : Obj) : Sat g (X.pt w.heap.size o :: L) { w with heap := w.heap.push o } := by
  obtain ⟨hg, x, hx, hL⟩ := h
  refine ⟨hg, fun b => if b = w.heap.size then some o else x b, fun b o' hb => ?_, fun b => if b = w.heap.size then some o else none, x, fun b => ?_, fun b o' hb => ?_, ?_, hL⟩
  · simp only at hb
    split at hb
    · rename_i e; subst e; cases hb; simp
    · have h1 := hx b o' hb
      have h2 := (Array.getElem?_eq_some_iff.1 h1).1
      simp only
      rw [Array.getElem?_push_lt (by omega)]; rw [← h1, Array.getElem?_eq_getElem]
  · by_cases e : b = w.heap.size
    · refine .inr ?_
      cases hb : x b with
      | none => rfl
      | some o' => have h1 := (Array.getElem?_eq_some_iff.1 (hx b o' hb)).1; omega
    · exact .inl (by simp [e])
  · rcases union_cases hb with hb | hb
    · simp only at hb ⊢; split at hb
      · rename_i e; simp [e, hb]
      · cases hb
    · simp only; split
      · rename_i e; have h1 := (Array.getElem?_eq_some_iff.1 (hx b o' hb)).1; omega
      · exact hb
  · simp [X.pt]

/-- A block turns. -/
theorem Sat.set (h : Sat g (X.pt b o :: R) w) (o' : Obj) : Sat g (X.pt b o' :: R) { w with heap := w.heap.setIfInBounds b o' } := by
  have hlt := h.size
  obtain ⟨hg, x, hx, h1, h2, hd, hu, hA, hR⟩ := h
  have h2b : h2 b = none := (hd b).resolve_left (by have : h1 b = some o := hA; simp [this])
  refine ⟨hg, fun k => if k = b then some o' else h2 k, fun k u hk => ?_, fun k => if k = b then some o' else none, h2, fun k => ?_, fun k u hk => ?_, by simp [X.pt], hR⟩
  · simp only at hk
    split at hk
    · rename_i e; subst e; cases hk; simp [hlt]
    · rename_i e
      simp only
      rw [Array.getElem?_setIfInBounds_ne (fun e' => e e'.symm)]
      exact hx k u (hu k u (union_right hd hk))
  · by_cases e : k = b
    · exact .inr (by rw [e]; exact h2b)
    · exact .inl (by simp [e])
  · rcases union_cases hk with hk | hk
    · simp only at hk ⊢; split at hk
      · rename_i e; simp [e, hk]
      · cases hk
    · simp only; split
      · rename_i e; rw [e, h2b] at hk; cases hk
      · exact hk

/-- All that a world's memory held. -/
def Old (w0 : World) : Assn := fun h => ∀ b o, w0.heap[b]? = some o → h b = some o

theorem Sat.start (w : World) : Sat (ghOf w) [Old w] w :=
  ⟨rfl, fun b => w.heap[b]?, fun _ _ h => h, all_single fun _ _ h => h⟩

theorem Sat.old_head {w0 : World} (h : Sat g (Old w0 :: R) w) {b : Nat} {o : Obj} (hb : w0.heap[b]? = some o) : w.heap[b]? = some o := by
  obtain ⟨_, x, hx, h1, h2, hd, hu, hA, _⟩ := h
  exact hx b o (hu b o (union_left (hA b o hb)))
theorem Sat.old {w0 : World} (h : Sat g L w) (p : Pick (Old w0) L R) {b : Nat} {o : Obj} (hb : w0.heap[b]? = some o) : w.heap[b]? = some o := (h.pick p).old_head hb

/-- A part with something unknown, or a fact, in it. -/
def ex {α : Sort _} (F : α → Assn) : Assn := fun h => ∃ x, F x h
def lift (p : Prop) (A : Assn) : Assn := fun h => p ∧ A h
/-- Some parts, as one. -/
def both (M : List Assn) : Assn := all M

theorem Sat.ex_out {α : Sort _} {F : α → Assn} (h : Sat g (ex F :: R) w) : ∃ x, Sat g (F x :: R) w := by
  obtain ⟨hg, x, hx, h1, h2, hd, hu, ⟨y, hA⟩, hR⟩ := h
  exact ⟨y, hg, x, hx, h1, h2, hd, hu, hA, hR⟩
theorem Sat.ex_in {α : Sort _} {F : α → Assn} (x : α) (h : Sat g (F x :: R) w) : Sat g (ex F :: R) w := h.cons_mono fun _ h => ⟨x, h⟩
theorem Sat.lift_out {p : Prop} (h : Sat g (lift p A :: R) w) : p ∧ Sat g (A :: R) w := by
  obtain ⟨hg, x, hx, h1, h2, hd, hu, ⟨hp, hA⟩, hR⟩ := h
  exact ⟨hp, hg, x, hx, h1, h2, hd, hu, hA, hR⟩
theorem Sat.lift_in {p : Prop} (hp : p) (h : Sat g (A :: R) w) : Sat g (lift p A :: R) w := h.cons_mono fun _ h => ⟨hp, h⟩

theorem all_append : ∀ (M : List Assn) (R : List Assn) (h : HMap), all (both M :: R) h ↔ all (M ++ R) h
  | [], R, h => ⟨fun ⟨h1, h2, hd, hu, _, hR⟩ => all_mono (fun b o hb => hu b o (union_right hd hb)) hR,
      fun hR => ⟨fun _ => none, h, fun b => .inl rfl, fun b o hb => by rcases union_cases hb with h | h <;> first | cases h | exact h, trivial, hR⟩⟩
  | A :: M, R, h => by
    constructor
    · rintro ⟨h1, h2, hd, hu, ⟨h3, h4, hd', hu', hA, hM⟩, hR⟩
      have e3 : ∀ b o, h3 b = some o → h1 b = some o := fun b o hb => hu' b o (union_left hb)
      have e4 : ∀ b o, h4 b = some o → h1 b = some o := fun b o hb => hu' b o (union_right hd' hb)
      have none_of : ∀ {x y : HMap}, (∀ b o, x b = some o → y b = some o) → ∀ b, y b = none → x b = none := fun hxy b hy => by
        cases hx : (_ : HMap) b with
        | none => exact hx
        | some o => rw [hxy b o hx] at hy; cases hy
      have d42 : apartH h4 h2 := fun b => (hd b).imp (none_of e4 b) id
      refine ⟨h3, union h4 h2, fun b => ?_, fun b o hb => ?_, hA, (all_append M R _).1 ⟨h4, h2, d42, fun _ _ h => h, hM, hR⟩⟩
      · cases x3 : h3 b with
        | none => exact .inl rfl
        | some o =>
          refine .inr ?_
          have y4 : h4 b = none := (hd' b).resolve_left (by simp [x3])
          have y2 : h2 b = none := (hd b).resolve_left (by simp [e3 b o x3])
          simp [union, y2, y4]
      · rcases union_cases hb with hb | hb
        · exact hu b o (union_left (e3 b o hb))
        · rcases union_cases hb with hb | hb
          · exact hu b o (union_left (e4 b o hb))
          · exact hu b o (union_right hd hb)
    · rintro ⟨h3, h5, hd, hu, hA, hMR⟩
      obtain ⟨h4, h2, hd', hu', hM, hR⟩ := (all_append M R h5).2 hMR
      have e4 : ∀ b o, h4 b = some o → h5 b = some o := fun b o hb => hu' b o (union_left hb)
      have e2 : ∀ b o, h2 b = some o → h5 b = some o := fun b o hb => hu' b o (union_right hd' hb)
      have none_of : ∀ {x y : HMap}, (∀ b o, x b = some o → y b = some o) → ∀ b, y b = none → x b = none := fun hxy b hy => by
        cases hx : (_ : HMap) b with
        | none => exact hx
        | some o => rw [hxy b o hx] at hy; cases hy
      have d34 : apartH h3 h4 := fun b => (hd b).imp id (none_of e4 b)
      refine ⟨union h3 h4, h2, fun b => ?_, fun b o hb => ?_, ⟨h3, h4, d34, fun _ _ h => h, hA, hM⟩, hR⟩
      · cases x2 : h2 b with
        | none => exact .inr rfl
        | some o =>
          refine .inl ?_
          have y4 : h4 b = none := (hd' b).resolve_right (by simp [x2])
          have y3 : h3 b = none := (hd b).resolve_right (by simp [e2 b o x2])
          simp [union, y3, y4]
      · rcases union_cases hb with hb | hb
        · rcases union_cases hb with hb | hb
          · exact hu b o (union_left hb)
          · exact hu b o (union_right hd (e4 b o hb))
        · exact hu b o (union_right hd (e2 b o hb))

theorem Sat.both_out {M : List Assn} (h : Sat g (both M :: R) w) : Sat g (M ++ R) w := h.mono fun _ => (all_append M R _).1
theorem Sat.both_in {M : List Assn} (h : Sat g (M ++ R) w) : Sat g (both M :: R) w := h.mono fun _ => (all_append M R _).2

theorem all_picks {As L R : List Assn} (p : Picks As L R) : ∀ h, all L h → all (As ++ R) h := by
  induction p with
  | nil => exact fun _ h => h
  | cons h _ ih => exact fun x ha => all_cons_mono ih (all_pick h x ha)
/-- Several parts come to the front; 'O' is the list as it stands then. -/
inductive Bring : List Assn → List Assn → List Assn → Prop where
  | nil {L : List Assn} : Bring [] L L
  | cons {A : Assn} {As L M O : List Assn} (h : Pick A L M) (h' : Bring As M O) : Bring (A :: As) L (A :: O)
theorem all_bring {As L O : List Assn} (p : Bring As L O) : ∀ h, all L h → all O h := by
  induction p with
  | nil => exact fun _ h => h
  | cons h _ ih => exact fun x ha => all_cons_mono ih (all_pick h x ha)
theorem Sat.bring {As L O : List Assn} (h : Sat g L w) (p : Bring As L O) : Sat g O w := h.mono (all_bring p)
theorem Sat.picks {As : List Assn} (h : Sat g L w) (p : Picks As L R) : Sat g (As ++ R) w := h.mono (all_picks p)

/-- What parts say in every world. -/
def Knows (L : List Assn) (p : World → Prop) : Prop := ∀ g w, Sat g L w → p w

theorem Knows.at {p : World → Prop} (k : Knows L p) (h : Sat g L w) : p w := k g w h
theorem Knows.cons {p : World → Prop} (k : Knows L p) (A : Assn) : Knows (A :: L) p := fun g w h => k g w h.tail
theorem Knows.head {p : World → Prop} (k : Knows [A] p) (R : List Assn) : Knows (A :: R) p := fun g w h => k g w h.head
theorem Knows.pick {p : World → Prop} (k : Knows (A :: R) p) (q : Pick A L R) : Knows L p := fun g w h => k g w (h.pick q)
/-- The end of a list. -/
inductive Suf : List Assn → List Assn → Prop where
  | refl (L : List Assn) : Suf L L
  | cons {L L' : List Assn} {A : Assn} (h : Suf L L') : Suf L (A :: L')
theorem Knows.of {p : World → Prop} (k : Knows L p) (s : Suf L L') : Knows L' p := by
  induction s with
  | refl => exact k
  | cons _ ih => exact Knows.cons ih _
theorem Knows.mono {p q : World → Prop} (k : Knows L p) (h : ∀ w, p w → q w) : Knows L q := fun g w hh => h _ (k g w hh)

/-- What was there when a call began is there: the frame 'L' is back. -/
theorem Sat.back {w0 : World} (h0 : Sat g L w0) (h : Sat g (Old w0 :: R) w) : Sat g (R ++ L) w := by
  have h' : Sat g (both L :: R) w := by
    obtain ⟨_, x0, hx0, hL⟩ := h0
    refine h.cons_mono fun h1 hA => all_mono (fun b o hb => hA b o (hx0 b o hb)) hL
  have h2 := h'.both_out
  refine h2.mono fun hh ha => ?_
  have p : ∀ (M N : List Assn) h, all (M ++ N) h → all (N ++ M) h := by
    intro M N h ha
    have h3 := (all_append M N h).2 ha
    have h4 : all (both M :: both N :: []) h := by
      obtain ⟨a1, a2, b1, b2, b3, b4⟩ := h3
      exact ⟨a1, a2, b1, b2, b3, (all_append N [] _).2 (by simpa using b4)⟩
    have h5 := all_swap h4
    have h6 := (all_append N _ _).1 h5
    have h7 : ∀ (N : List Assn) h, all (N ++ [both M]) h → all (N ++ M) h := by
      intro N
      induction N with
      | nil => intro h ha; have := (all_append M [] h).1 ha; simpa using this
      | cons A N ih => intro h ha; exact all_cons_mono ih ha
    exact h7 N h h6
  exact p _ _ _ ha

end
end Go.Proofs.Ytekilljcoplacaa.X
