/- The ground and the walks of this claim, part 4: XDraw XNode4 XBlob XWalk2 XDefer XStore XPut XPut2 XPut3 XPut4 XPut5 XLoad1 XLoad2 XLoad3 XChk XChk2. -/
import Derived.Test.YteifbglognfgdaaGreatDoorZ3
namespace Go.Proofs.YteifbglognfgdaaGreatDoor.X
set_option linter.unusedVariables false
set_option linter.unusedSimpArgs false
set_option maxRecDepth 20000
set_option maxHeartbeats 8000000
theorem nodup_lt : ∀ (n : Nat) (l : List Nat), l.Nodup → (∀ x ∈ l, x < n) → l.length ≤ n
 | 0, l, _, h => by
  cases l with
  | nil => exact Nat.le_refl _
  | cons x l => have := h x (List.mem_cons_self ..); omega
 | n + 1, l, hn, h => by
  have h1 : (l.erase n).Nodup := hn.erase n
  have h2 := nodup_lt n (l.erase n) h1 (fun x hx => by
   have h3 := h x (List.mem_of_mem_erase hx)
   have h4 : x ≠ n := fun e => by subst e; exact (List.Nodup.mem_erase_iff hn).1 hx |>.1 rfl
   omega)
  have h3 : l.length ≤ (l.erase n).length + 1 := by rw [List.length_erase]; split <;> omega
  omega
def afterB (ops : Array Oper) : Bool := (List.range ops.size).all fun j => match ops[j]? with
 | some o => o.after.all fun x => !Region.binds .any x || Nat.blt x.on j
 | none => true
section
variable {P : Program} {n : Nat} {ro : Option Nat} {ops : Array Oper} {K : Cont} {E : List (Nat × Cont)} {F : Cont} {e : Env} {w : World}
theorem ready_all (hB : afterB ops = true) {listed : Array Bool} (hr : Region.ready .any ops listed = []) (hsz : listed.size = ops.size) : ∀ j, j < ops.size → listed.getD j true = true := by
 intro j
 induction j using Nat.strongRecOn with
 | _ j ih =>
  intro hj
  refine Decidable.byContradiction fun hl => ?_
  have hl : listed.getD j true = false := by simpa using hl
  have hm : j ∈ Region.ready .any ops listed := mem_ready.2 ⟨hl, ops[j], Array.getElem?_eq_getElem hj, fun x hx hb => by
   have h1 := List.all_eq_true.1 hB j (List.mem_range.2 hj)
   rw [Array.getElem?_eq_getElem hj] at h1
   simp only at h1
   have h2 := Array.all_eq_true_iff_forall_mem.1 h1 x hx
   simp only [hb, Bool.not_true, Bool.false_or, Nat.blt_eq] at h2
   have h3 := ih x.on h2 (by omega)
   have h4 : x.on < listed.size := by omega
   simp only [Array.getD, h4, dif_pos] at h3 ⊢
   exact h3⟩
  rw [hr] at hm; cases hm
def postB (ops : Array Oper) (mid : List Nat) : List Nat → Bool
 | [] => true
 | p :: r => mid.all (fun m => (deps .any ops m).contains p && !(m == p)) && r.all (fun q => (deps .any ops p).contains q && !(p == q)) && postB ops mid r
theorem getD_not {listed : Array Bool} {j m : Nat} (hsz : listed.size = m) (hj : j < m) (h : ¬ listed.getD j true = true) : listed.getD j false = false ∧ listed.getD j true = false := by
 have h4 : j < listed.size := by omega
 simp only [Array.getD, h4, dif_pos] at h ⊢
 simpa using h
theorem post_run (hB : afterB ops = true) (Q : Exit → Act → World → Prop) (mid : List Nat) : ∀ (post : List Nat) (fuel : Nat) (listed : Array Bool) (a : Act) (w : World), listed.size = ops.size → Closed .any ops listed →
  (∀ j, j < ops.size → (listed.getD j true = true ∨ j ∈ post)) → (∀ j ∈ post, listed.getD j true = false) → postB ops [] post = true → post.Nodup → (∀ j ∈ post, j < ops.size) → post.length ≤ fuel → SN P ops (Q .normal) post a w → wpAnyIn (Fw ro) 0 P .any ops Q fuel listed a w
 | [], fuel, listed, a, w, hsz, hc, h1, h2, h3, h4, h5, h6, h => by
  have hr : Region.ready .any ops listed = [] := by
   cases hr : Region.ready .any ops listed with
   | nil => rfl
   | cons j r =>
    have hj : j ∈ Region.ready .any ops listed := by rw [hr]; exact List.mem_cons_self ..
    obtain ⟨h1', o, ho, _⟩ := mem_ready.1 hj
    have hjs := (Array.getElem?_eq_some_iff.1 ho).1
    rcases h1 j hjs with h | h
    ·rw [h] at h1'; cases h1'
    cases h
  cases fuel with
  | zero => exact ⟨hr, h⟩
  | succ fuel => exact ⟨fun _ => h, fun i hi => by rw [hr] at hi; cases hi⟩
 | p :: post, 0, listed, a, w, hsz, hc, h1, h2, h3, h4, h5, h6, h => by simp at h6
 | p :: post, fuel + 1, listed, a, w, hsz, hc, h1, h2, h3, h4, h5, h6, h => by
  simp only [postB, Bool.and_eq_true, List.all_eq_true, List.not_mem_nil, false_implies, implies_true, true_and] at h3
  have hps := h5 p (List.mem_cons_self ..)
  have hpl := h2 p (List.mem_cons_self ..)
  refine ⟨fun hr => ?_, fun i hi => ?_⟩
  ·have := ready_all hB hr hsz p hps
   rw [hpl] at this; cases this
  obtain ⟨hil, o, ho, _⟩ := mem_ready.1 hi
  have his := (Array.getElem?_eq_some_iff.1 ho).1
  have hip : i = p := by
   refine Decidable.byContradiction fun hne => ?_
   have him : i ∈ post := by
    rcases h1 i his with h | h
    ·rw [h] at hil; cases hil
    exact (List.mem_cons.1 h).resolve_left hne
   have h7 := (h3.1 i him).1
   exact deps_not_ready hc (getD_not hsz hps (by rw [hpl]; simp)).1 (by simpa using h7) hne hi
  subst hip
  simp only [SN, ho] at h
  refine wpOp_of_SOp ho (fun a' w' hx => ?_) h
  refine post_run hB Q mid post fuel (listed.setIfInBounds i true) a' w' (by simp [hsz]) (hc.set hi) (fun j hj => ?_) (fun j hj => ?_) h3.2 (List.nodup_cons.1 h4).2 (fun j hj => h5 j (List.mem_cons_of_mem _ hj)) (by simpa using h6) hx
  ·by_cases hji : j = i
   ·subst hji; exact .inl (by simp [hsz, hj])
   have e1 : (listed.setIfInBounds i true).getD j true = listed.getD j true := by
    simp only [Array.getD, Array.size_setIfInBounds]
    split
    ·exact Array.getElem_setIfInBounds_ne _ (fun e => hji e.symm)
    rfl
   rw [e1]
   rcases h1 j hj with h | h
   ·exact .inl h
   exact .inr ((List.mem_cons.1 h).resolve_left hji)
  have hji : j ≠ i := fun e => by subst e; exact (List.nodup_cons.1 h4).1 hj
  have e1 : (listed.setIfInBounds i true).getD j true = listed.getD j true := by
   simp only [Array.getD, Array.size_setIfInBounds]
   split
   ·exact Array.getElem_setIfInBounds_ne _ (fun e => hji e.symm)
   rfl
  rw [e1]; exact h2 j (List.mem_cons_of_mem _ hj)
def afterOf (ops : Array Oper) (i : Nat) : List Nat := match ops[i]? with
 | some o => (o.after.toList.filter (Region.binds .any)).map (·.on)
 | none => []
theorem x_drawI {id : Nat} (mid post : List Nat) (I : List Nat → Env → World → Prop) (hm : P.follows .mixedOrders = true) (hB : (afterB ops && postB ops mid post && decide (post.Nodup) && decide (mid.length + post.length = ops.size) && (List.range ops.size).all (fun j => mid.contains j || post.contains j) && post.all (Nat.blt · ops.size) && mid.all (fun m => Nat.blt m ops.size && !post.contains m)) = true) (h0 : I [] e { w with drawn := w.drawn + 1 })
  (hs : ∀ D i e w, i ∈ mid → i ∉ D → (∀ j, (afterOf ops i).contains j = true → j ∈ D) → I D e w → XL P n ops false [] [i] (I (i :: D)) e w)
  (he : ∀ D e w, (∀ i ∈ mid, i ∈ D) → I D e w → XL P n ops false [] post K e w) : X P n ro (.region id ops true) K E F e w := fun a ha => by
 simp only [Bool.and_eq_true, decide_eq_true_eq, List.all_eq_true, Nat.blt_eq, Bool.or_eq_true, List.contains_iff_mem, Bool.not_eq_true', List.mem_range] at hB
 obtain ⟨⟨⟨⟨⟨⟨hA, hP⟩, hnd⟩, hlen⟩, hcov⟩, hpl⟩, hml⟩ := hB
 refine wpIn_region_any hm ?_
 have hP0 : ∀ (l : List Nat), postB ops mid l = true → postB ops [] l = true ∧ ∀ p ∈ l, ∀ m ∈ mid, p ∈ deps .any ops m ∧ m ≠ p := by
  intro l
  induction l with
  | nil => intro _; exact ⟨rfl, fun p hp => by cases hp⟩
  | cons p l ih =>
   intro h
   simp only [postB, Bool.and_eq_true, List.all_eq_true] at h
   obtain ⟨⟨h1, h2⟩, h3⟩ := h
   obtain ⟨h4, h5⟩ := ih h3
   refine ⟨by simp only [postB, Bool.and_eq_true, List.all_eq_true]; exact ⟨⟨fun x hx => (by cases hx), h2⟩, h4⟩, fun q hq m hm => ?_⟩
   rcases List.mem_cons.1 hq with rfl | hq
   ·have := h1 m hm
    simpa using this
   exact h5 q hq m hm
 obtain ⟨hP1, hP2⟩ := hP0 post hP
 have key : ∀ (fuel : Nat) (listed : Array Bool) (D : List Nat) (a : Act) (w : World), listed.size = ops.size → Closed .any ops listed → (∀ j, j < ops.size → (listed.getD j true = true ↔ j ∈ D)) → D.Nodup → (∀ j ∈ D, j ∈ mid) → D.length + fuel = ops.size → (∃ e, Agree n e a ∧ I D e w) →
   wpAnyIn (Fw ro) 0 P .any ops (outAt K E F n) fuel listed a w := by
  intro fuel
  induction fuel with
  | zero =>
   intro listed D a w hsz hc hl hn hlt hlen2 ⟨e, hae, hI⟩
   have hall : ∀ j, j < ops.size → j ∈ D := fun j hj => by
    refine Decidable.byContradiction fun hjD => ?_
    have := nodup_lt ops.size (j :: D) (List.nodup_cons.2 ⟨hjD, hn⟩) (fun x hx => by
     rcases List.mem_cons.1 hx with rfl | hx
     ·exact hj
     ·exact (hml x (hlt x hx)).1)
    simp only [List.length_cons] at this; omega
   have hp0 : post = [] := by
    cases hpp : post with
    | nil => rfl
    | cons p r =>
     have h1 := hpl p (by rw [hpp]; exact List.mem_cons_self ..)
     have h2 := (hml p (hlt p (hall p h1))).2
     rw [hpp] at h2; simp at h2
   have h := he D e w (fun i hi => hall i (hml i hi).1) hI a hae
   rw [hp0] at h
   simp only [cond, SN] at h
   refine ⟨?_, h⟩
   cases hr : Region.ready .any ops listed with
   | nil => rfl
   | cons j r =>
    have hj : j ∈ Region.ready .any ops listed := by rw [hr]; exact List.mem_cons_self ..
    obtain ⟨h1, o, ho, _⟩ := mem_ready.1 hj
    have hjs := (Array.getElem?_eq_some_iff.1 ho).1
    rw [(hl j hjs).2 (hall j hjs)] at h1; cases h1
  | succ fuel ih =>
   intro listed D a w hsz hc hl hn hlt hlen2 hEI
   by_cases hall : ∀ i ∈ mid, i ∈ D
   ·obtain ⟨e, hae, hI⟩ := hEI
    have h := he D e w hall hI a hae
    simp only [cond] at h
    refine post_run hA (outAt K E F n) mid post (fuel + 1) listed a w hsz hc (fun j hj => ?_) (fun j hj => ?_) hP1 hnd hpl ?_ h
    ·rcases hcov j hj with h' | h'
     ·exact .inl ((hl j hj).2 (hall j h'))
     exact .inr h'
    ·have hjs := hpl j hj
     have hjD : j ∉ D := fun h' => by
      have h2 := (hml j (hlt j h')).2
      simp [hj] at h2
     exact (getD_not hsz hjs (fun h' => hjD ((hl j hjs).1 h'))).2
    refine Decidable.byContradiction fun hlt2 => ?_
    have hdm : D.length ≤ mid.length := by
     have h1 := nodup_lt ops.size (D ++ post) (List.nodup_append.2 ⟨hn, hnd, fun x hx y hy e => by
       subst e
       have h2 := (hml x (hlt x hx)).2
       simp [hy] at h2⟩) (fun x hx => by
       rcases List.mem_append.1 hx with hx | hx
       ·exact (hml x (hlt x hx)).1
       ·exact hpl x hx)
     rw [List.length_append] at h1
     omega
    omega
   obtain ⟨m, hm1, hm2⟩ : ∃ m, m ∈ mid ∧ m ∉ D := by
    refine Decidable.byContradiction fun hno => hall fun i hi => Decidable.byContradiction fun hiD => hno ⟨i, hi, hiD⟩
   have hms := (hml m hm1).1
   obtain ⟨e, hae, hI⟩ := hEI
   refine ⟨fun hr => ?_, fun i hi => ?_⟩
   ·exact absurd ((hl m hms).1 (ready_all hA hr hsz m hms)) hm2
   obtain ⟨h1, o, ho, h2⟩ := mem_ready.1 hi
   have his := (Array.getElem?_eq_some_iff.1 ho).1
   have him : i ∈ mid := by
    rcases hcov i his with h | h
    ·exact h
    exfalso
    have h3 := hP2 i h m hm1
    exact deps_not_ready hc (getD_not hsz hms (fun h' => hm2 ((hl m hms).1 h'))).1 h3.1 (fun e => h3.2 e.symm) hi
   have hiD : i ∉ D := fun h => by rw [(hl i his).2 h] at h1; cases h1
   have hdep : ∀ x ∈ o.after, Region.binds .any x = true → x.on ∈ D := fun x hx hb => by
    have h3 := h2 x hx hb
    have hxs : x.on < ops.size := by
     rw [← hsz]
     refine Decidable.byContradiction fun h => ?_
     simp only [Array.getD, h, dif_neg, not_false_iff] at h3
     cases h3
    refine (hl x.on hxs).1 ?_
    have h4 : x.on < listed.size := by omega
    simp only [Array.getD, h4, dif_pos] at h3 ⊢
    exact h3
   have hstep := hs D i e w him hiD (fun j hj => by
      simp only [afterOf, ho, List.contains_iff_mem, List.mem_map, List.mem_filter] at hj
      obtain ⟨x, ⟨hx, hb⟩, rfl⟩ := hj
      exact hdep x (by simpa using hx) hb) hI a hae
   simp only [cond, SN, ho] at hstep
   refine wpOp_of_SOp ho (fun a' w' hx => ?_) hstep
   obtain ⟨e', ha', hI'⟩ := hx
   refine ih (listed.setIfInBounds i true) (i :: D) a' w' (by simp [hsz]) (hc.set hi) (fun j hj => ?_) (List.nodup_cons.2 ⟨hiD, hn⟩) (fun j hj => ?_) (by simp only [List.length_cons]; omega) ⟨e', ha', hI'⟩
   ·have := hl j hj
    by_cases hji : j = i
    ·subst hji; simp [hsz, hj]
    have e1 : (listed.setIfInBounds i true).getD j true = listed.getD j true := by
     simp only [Array.getD, Array.size_setIfInBounds]
     split
     ·exact Array.getElem_setIfInBounds_ne _ (fun e => hji e.symm)
     rfl
    rw [e1, this]; simp [hji]
   rcases List.mem_cons.1 hj with rfl | hj
   ·exact him
   exact hlt j hj
 refine key ops.size (Array.replicate ops.size false) [] a _ (by simp) ⟨by simp, fun j o ho hl => ?_⟩ (fun j hj => by simp [hj]) List.nodup_nil (fun j hj => by cases hj) (by simp) ⟨e, ha, h0⟩
 exfalso
 rcases Nat.lt_or_ge j ops.size with h' | h'
 ·simp [h'] at hl
 simp [Array.getElem?_eq_none (show (Array.replicate ops.size false).size ≤ j by simpa using h')] at hl
end
def opt (c : Prop) (A : Assn) : Assn := fun h => c → A h
theorem opt_yes {c : Prop} {A : Assn} {G : Gh} {R : List Assn} {w : World} (hc : c) (h : Sat G (opt c A :: R) w) : Sat G (A :: R) w := h.cons_mono fun _ h => h hc
theorem opt_mk {c : Prop} {A : Assn} {G : Gh} {R : List Assn} {w : World} (h : Sat G (A :: R) w) : Sat G (opt c A :: R) w := h.cons_mono fun _ h _ => h
theorem opt_no {c : Prop} {A : Assn} {G : Gh} {R : List Assn} {w : World} (hc : ¬ c) (h : Sat G R w) : Sat G (opt c A :: R) w := by
 have h' : Sat G (both ([] : List Assn) :: R) w := Sat.both_in h
 exact h'.cons_mono fun _ _ h => absurd h hc
structure EnvI (S : List (Nat × Nat)) (b : Env) (D : List Nat) (val : Nat → Value) (e : Env) : Prop where
 base : Sub b e
 slot : ∀ k t, (k, t) ∈ S → k ∈ D → get e t = some (val k)
theorem EnvI.step {S : List (Nat × Nat)} {b : Env} {D : List Nat} {val : Nat → Value} {e : Env} (h : EnvI S b D val e) (k t : Nat) {u : Value} (hS : (S.all fun x => Nat.beq x.1 k == Nat.beq x.2 t) = true) (hb : get b t = none) (ht : Nat.beq t 1000000000 = false) :
  EnvI S b (k :: D) (fun j => if j = k then u else val j) ((t, u) :: e) := by
 have htm : t ≠ 1000000000 := fun e => by subst e; simp at ht
 have hne : ∀ s : Nat, s ≠ t → get ((t, u) :: e) s = get e s := fun s hs => by simp only [get, beq_no (fun e => hs e.symm), Bool.false_and, cond]
 refine ⟨⟨fun s v hv => ?_, ?_⟩, fun j s hj hd => ?_⟩
 ·have hst : s ≠ t := fun e => by subst e; rw [hb] at hv; cases hv
  rw [hne s hst]; exact h.base.get s v hv
 ·rw [marks_cons htm]; exact h.base.marks
 have h1 := List.all_eq_true.1 hS _ hj
 simp only at h1
 by_cases hjk : j = k
 ·subst hjk
  have hst : s = t := by
   have : Nat.beq s t = true := by simpa using h1
   exact Nat.eq_of_beq_eq_true this
  subst hst
  rw [if_pos rfl]
  simp [get, ht]
 have hst : s ≠ t := fun e => by
  subst e
  have : Nat.beq j k = true := by simpa using h1
  exact hjk (Nat.eq_of_beq_eq_true this)
 rw [hne s hst, if_neg hjk]
 exact h.slot j s hj ((List.mem_cons.1 hd).resolve_left hjk)
theorem step_parts {G : Gh} {w : World} {P : Nat → Value → Assn} {D : List Nat} {val : Nat → Value} {k : Nat} {u : Value} {frame : List Assn} : ∀ (ks1 ks2 : List Nat), k ∉ ks1 → k ∉ ks2 →
  Sat G (P k u :: ((ks1 ++ ks2).map (fun j => opt (j ∈ D) (P j (val j))) ++ frame)) w → Sat G ((ks1 ++ k :: ks2).map (fun j => opt (j ∈ k :: D) (P j (if j = k then u else val j))) ++ frame) w := by
 intro ks1 ks2 h1 h2 h
 have hm : ∀ (ks : List Nat), k ∉ ks → ∀ (R R' : List Assn), (∀ h, all R h → all R' h) → ∀ h, all (ks.map (fun j => opt (j ∈ D) (P j (val j))) ++ R) h → all (ks.map (fun j => opt (j ∈ k :: D) (P j (if j = k then u else val j))) ++ R') h := by
  intro ks
  induction ks with
  | nil => intro _ R R' hR h hh; exact hR h hh
  | cons j ks ih =>
   intro hk R R' hR h hh
   have hjk : j ≠ k := fun e => hk (by rw [e]; exact List.mem_cons_self ..)
   obtain ⟨x1, x2, hd, hu, hA, hB⟩ := hh
   refine ⟨x1, x2, hd, hu, fun hj => ?_, ih (fun h => hk (List.mem_cons_of_mem _ h)) R R' hR x2 hB⟩
   rw [if_neg hjk]
   exact hA ((List.mem_cons.1 hj).resolve_left hjk)
 have hp : ∀ (ks1 : List Nat) (R : List Assn) (A : Assn), Pick A (ks1.map (fun j => opt (j ∈ D) (P j (val j))) ++ A :: R) (ks1.map (fun j => opt (j ∈ D) (P j (val j))) ++ R) := by
  intro ks1 R A
  induction ks1 with
  | nil => exact .here
  | cons j ks ih => exact .there ih
 rw [List.map_append, List.append_assoc] at h
 have h3 := h.unpick (hp ks1 (ks2.map (fun j => opt (j ∈ D) (P j (val j))) ++ frame) (P k u))
 rw [List.map_append, List.append_assoc, List.map_cons, List.cons_append]
 refine h3.mono fun hh ha => hm ks1 h1 _ _ (fun x hx => ?_) hh ha
 obtain ⟨x1, x2, hd, hu, hA, hB⟩ := hx
 refine ⟨x1, x2, hd, hu, fun _ => by rw [if_pos rfl]; exact hA, hm ks2 h2 _ _ (fun _ h => h) x2 hB⟩
def keyAt (l : List It) (k : Nat) : Bys := (l[k]?.map It.key).getD []
def nilKey : List It → List It
 | [] => []
 | x :: r => { x with key := [] } :: r
def partedP (left right : Pg) (row : List It) (n : Nat) : Option (Pg × Pg × Bys) :=
 if left.kind = 2 then some ({ left with items := row.take n }, { right with items := nilKey (row.drop n) }, keyAt row n)
 else match betweenK (keyAt row (n - 1)) (keyAt row n) with
  | none => none
  | some s => some ({ left with items := row.take n }, { right with items := row.drop n }, s)
theorem keyAt_eq {l : List ItV} {k : Nat} {x : ItV} (h : l[k]? = some x) : keyAt (l.map ItV.it) k = x.it.key := by unfold keyAt; rw [List.getElem?_map, h]; rfl
theorem both_cons {G : Gh} {R M : List Assn} {A : Assn} {w : World} (h : Sat G (A :: both M :: R) w) : Sat G (both (A :: M) :: R) w :=
 Sat.both_in (M := A :: M) (h.mono (L' := A :: (M ++ R)) fun h ha => all_cons_mono (fun h hb => (all_append M R h).1 hb) ha)
def splitP (p : Pg) : Option (Pg × Pg × Bys) := if ¬ (p.kind = 1 ∨ p.kind = 2) ∨ ¬ p.items.length = 8 then none else partedP p p p.items 4
def ptI (va vb : Value) (p q : PgV) (A B : Pg) : Nat → Value → Assn := fun k u => match k with
 | 0 => lift (u = .agg p.cells.toArray) (both [])
 | 1 => lift (u = va) (both [])
 | 2 => ex fun b => lift (u = .slice (some ⟨b, 0, none⟩) 1 1) (blk b [va] 73)
 | 3 => ex fun p1 : PgV => lift (u = .agg p1.cells.toArray ∧ p1.pg = A ∧ p1.Sm) (pgO p1)
 | 4 => lift (u = .agg q.cells.toArray) (both [])
 | 5 => lift (u = vb) (both [])
 | 6 => ex fun b => lift (u = .slice (some ⟨b, 0, none⟩) 1 1) (blk b [vb] 73)
 | 7 => ex fun p2 : PgV => lift (u = .agg p2.cells.toArray ∧ p2.pg = B ∧ p2.Sm) (pgO p2)
 | _ => ex fun b => lift (u = .pointer (some ⟨b, 0, none⟩)) (blk b pgZ.cells 75)
theorem emp_in {p : Prop} {G : Gh} {R : List Assn} {w : World} (hp : p) (h : Sat G R w) : Sat G (lift p (both []) :: R) w := Sat.lift_in hp (Sat.both_in (M := []) h)
section
variable {G : Gh} {L R : List Assn} {w : World}
theorem ct_node_parted {p q : PgV} {rv : Value} {rl : List ItV} {n : Nat} (hw : Sat G L w) (hp : p.Ok L) (hq : q.Ok L) (hr : ItsOk L rv rl) (hn : 1 ≤ n ∧ n < rl.length) (hrl : rl.length ≤ 1000000) : Calls Tryz.prog 191 #[.agg p.cells.toArray, .agg q.cells.toArray, rv, .int .i64 n] w (Ret fun r w' =>
  (partedP p.pg q.pg (rl.map ItV.it) n = none ∧ r = .tuple #[.agg pgZ.cells.toArray, .agg pgZ.cells.toArray, .slice none 0 0, .bool false] ∧ Sat G L w') ∨
  (∃ (pl pr : PgV) (s : Bys) (sv : Value), partedP p.pg q.pg (rl.map ItV.it) n = some (pl.pg, pr.pg, s) ∧ r = .tuple #[.agg pl.cells.toArray, .agg pr.cells.toArray, sv, .bool true] ∧ pl.Sm ∧ pr.Sm ∧ Sat G (pgO pl :: pgO pr :: row 5 1 sv s.length (bys s) :: L) w')) := by
 refine calls_of_x (args := [_, _, _, _]) Tryz.func191 rfl Tryz.ntmps191 rfl rfl ?_
 refine z2 ?_
 refine x_box rfl rfl trivial rfl rfl hw rfl (fun w b4 hw => ?_)
 refine x_box rfl rfl trivial rfl rfl hw rfl (fun w b5 hw => ?_)
 refine x_alloc rfl rfl trivial z_api_Page hw rfl (fun w b8 hw => ?_)
 refine x_alloc rfl rfl trivial z_api_Page hw rfl (fun w b9 hw => ?_)
 refine z7 ?_
 refine x_call rfl rfl trivial cal_node_parts rfl (ct_node_parts (l := rl) hw (hr.of sF) ((hr.sl.of sF).at hw |>.plain (by rw [List.length_map]; omega)) (by omega)) rfl (fun w v22 hv => ?_)
 obtain ⟨va, vb, rfl, hta, htb, hw⟩ := hv
 obtain ⟨aa, ac, rfl, -, -⟩ := ((hta.of sF).sl.at hw).form
 obtain ⟨ba, bc, rfl, -, -⟩ := ((htb.of sF).sl.at hw).form
 have hla : ((rl.take n).map ItV.cells).length = n := by rw [List.length_map, List.length_take]; omega
 have hlb : ((rl.drop n).map ItV.cells).length = rl.length - n := by rw [List.length_map, List.length_drop]
 rw [hla] at hta
 rw [hlb] at htb
 rw [hla, hlb]
 obtain ⟨ba1, oa1, rfl⟩ := ((hta.of sF).sl.at hw).nn (by omega)
 obtain ⟨bb1, ob1, rfl⟩ := ((htb.of sF).sl.at hw).nn (by omega)
 obtain ⟨xa, hxa⟩ : ∃ x, rl[n - 1]? = some x := ⟨_, List.getElem?_eq_getElem (by omega)⟩
 obtain ⟨xb, hxb⟩ : ∃ x, rl[n]? = some x := ⟨_, List.getElem?_eq_getElem (by omega)⟩
 refine z7 ?_
 have hz := hw
 clear hw
 have hw : Sat G (blk b9 [.int .i64 0, .int .i64 0, .slice none 0 0, .slice none 0 0, .int .i64 0] 75 :: blk b8 [.int .i64 0, .int .i64 0, .slice none 0 0, .slice none 0 0, .int .i64 0] 75 :: blk b5 q.cells 75 :: blk b4 p.cells 75 :: L) w := hz
 clear hz
 obtain ⟨PT, hPT⟩ : ∃ PT, PT = (ptI (.slice (some ⟨ba1, oa1, none⟩) n ac) (.slice (some ⟨bb1, ob1, none⟩) (rl.length - n) bc) p q ⟨p.kind, p.level, (rl.take n).map ItV.it, p.data, p.next⟩ ⟨q.kind, q.level, (rl.drop n).map ItV.it, q.data, q.next⟩) := ⟨_, rfl⟩
 refine x_drawI [0, 1, 2, 3, 4, 5, 6, 7, 8, 9] [10, 11] (fun D e w => ∃ val, EnvI [(0, 25), (1, 26), (2, 27), (3, 28), (4, 29), (5, 30), (6, 31), (7, 32), (8, 14), (9, 15)] [(3, .int .i64 n), (4, .pointer (some ⟨b4, 0, none⟩)), (5, .pointer (some ⟨b5, 0, none⟩)), (8, .pointer (some ⟨b8, 0, none⟩)), (9, .pointer (some ⟨b9, 0, none⟩)), (12, .slice (some ⟨ba1, oa1, none⟩) n ac), (13, .slice (some ⟨bb1, ob1, none⟩) (rl.length - n) bc)] D val e ∧ Sat G ([0, 1, 2, 3, 4, 5, 6, 7, 8, 9].map (fun j => opt (j ∈ D) (PT j (val j))) ++ (blk b9 [.int .i64 0, .int .i64 0, .slice none 0 0, .slice none 0 0, .int .i64 0] 75 :: blk b8 [.int .i64 0, .int .i64 0, .slice none 0 0, .slice none 0 0, .int .i64 0] 75 :: blk b5 q.cells 75 :: blk b4 p.cells 75 :: L)) w) mixed (by kernel_rfl) ?_ ?_ ?_
 ·refine ⟨fun _ => .bool false, ⟨sB, fun k t _ h => by cases h⟩, ?_⟩
  simp only [List.map_cons, List.map_nil, List.cons_append, List.nil_append]
  iterate 10 refine opt_no (by simp) ?_
  exact hw.drawn _
 ·clear hw
  intro D i e w him hiD hdep ⟨val, henv, hw⟩
  simp only [List.map_cons, List.map_nil, List.cons_append, List.nil_append] at hw
  simp only [List.mem_cons, List.not_mem_nil, or_false] at him
  rcases him with rfl | rfl | rfl | rfl | rfl | rfl | rfl | rfl | rfl | rfl
  ·refine x_ld rfl rfl trivial (henv.base.get 4 _ rfl) (Loads.blkA (l := p.cells) many_api_Page hw pK rfl) ?_
   refine xl_nil ?_
   have hz := (hw.b [opt (0 ∈ D) _]).tail
   refine ⟨_, henv.step 0 25 rfl rfl rfl, step_parts [] [1, 2, 3, 4, 5, 6, 7, 8, 9] (by decide) (by decide) ?_⟩
   rw [hPT]
   rw [hPT] at hz
   exact emp_in rfl hz
  ·refine x_mv rfl rfl trivial (henv.base.get 12 _ rfl) ?_
   refine xl_nil ?_
   have hz := (hw.b [opt (1 ∈ D) _]).tail
   refine ⟨_, henv.step 1 26 rfl rfl rfl, step_parts [0] [2, 3, 4, 5, 6, 7, 8, 9] (by decide) (by decide) ?_⟩
   rw [hPT]
   rw [hPT] at hz
   exact emp_in rfl hz
  ·have hd := hdep 1 (by kernel_rfl)
   have hu := opt_yes hd (hw.b [opt (1 ∈ D) _])
   try rw [hPT] at hu
   obtain ⟨h1, -⟩ := Sat.lift_out hu
   refine x_bs1 (cs := [.slice (some ⟨ba1, oa1, none⟩) n ac]) rfl rfl trivial U_sl_sl_api_Item sz_sl_api_Item zs_sl_api_Item (by decide) ((henv.slot 1 26 (by simp) hd).trans (congrArg some h1)) rfl rfl hw rfl (fun w b hw => ?_)
   refine xl_nil ?_
   have hz := (hw.b [opt (2 ∈ D) _, blk b _ _]).tail
   refine ⟨_, henv.step 2 27 rfl rfl rfl, step_parts [0, 1] [3, 4, 5, 6, 7, 8, 9] (by decide) (by decide) ?_⟩
   rw [hPT]
   rw [hPT] at hz
   exact Sat.ex_in b (Sat.lift_in rfl hz)
  ·have hd1 := hdep 0 (by kernel_rfl)
   have hd2 := hdep 2 (by kernel_rfl)
   have hu := opt_yes hd1 (hw.b [opt (0 ∈ D) _])
   try rw [hPT] at hu
   obtain ⟨h1, -⟩ := Sat.lift_out hu
   have hu := opt_yes hd2 (hw.b [opt (2 ∈ D) _])
   try rw [hPT] at hu
   obtain ⟨bs, hu⟩ := Sat.ex_out (F := fun b => lift (val 2 = .slice (some ⟨b, 0, none⟩) 1 1) (blk b [.slice (some ⟨ba1, oa1, none⟩) n ac] 73)) hu
   obtain ⟨h2, hw⟩ := hu.lift_out
   have g1 := (henv.slot 0 25 (by simp) hd1).trans (congrArg some h1)
   have g2 := (henv.slot 2 27 (by simp) hd2).trans (congrArg some h2)
   refine x_call (args := [.agg p.cells.toArray, .slice (some ⟨bs, 0, none⟩) 1 1]) rfl rfl trivial cal_node_with (by simp [evs, ev, g1, g2]) (ct_node_with (p := p) (pcs := [(.slice (some ⟨ba1, oa1, none⟩) n ac, rl.take n)]) hw (hp.of sF) (((slV_blk (cs := [.slice (some ⟨ba1, oa1, none⟩) n ac])).head _).of sF) (by
    intro y hy
    simp only [List.mem_cons, List.not_mem_nil, or_false] at hy
    subst hy; exact hta.of sF) (by simp) (by
    intro y hy
    simp only [List.mem_cons, List.not_mem_nil, or_false] at hy
    subst hy; simp only [List.length_take, List.length_drop]; omega)) rfl (fun w v hv => ?_)
   obtain ⟨p1, rfl, hp1, hs1, hw⟩ := hv
   refine xl_nil ?_
   have hz := hw.b [blk bs _ _]
   have hz := opt_mk (c := 2 ∈ D) (A := PT 2 (val 2)) (by rw [hPT]; exact Sat.ex_in bs (Sat.lift_in h2 hz))
   have hz := (hz.b [opt (3 ∈ D) _, pgO p1, opt (0 ∈ D) _, opt (1 ∈ D) _, opt (2 ∈ D) _, opt (4 ∈ D) _, opt (5 ∈ D) _, opt (6 ∈ D) _, opt (7 ∈ D) _, opt (8 ∈ D) _, opt (9 ∈ D) _]).tail
   refine ⟨_, henv.step 3 28 rfl rfl rfl, step_parts [0, 1, 2] [4, 5, 6, 7, 8, 9] (by decide) (by decide) ?_⟩
   rw [hPT]
   rw [hPT] at hz
   exact Sat.ex_in p1 (Sat.lift_in ⟨rfl, by rw [hp1]; simp, hs1⟩ hz)
  ·refine x_ld rfl rfl trivial (henv.base.get 5 _ rfl) (Loads.blkA (l := q.cells) many_api_Page hw pK rfl) ?_
   refine xl_nil ?_
   have hz := (hw.b [opt (4 ∈ D) _]).tail
   refine ⟨_, henv.step 4 29 rfl rfl rfl, step_parts [0, 1, 2, 3] [5, 6, 7, 8, 9] (by decide) (by decide) ?_⟩
   rw [hPT]
   rw [hPT] at hz
   exact emp_in rfl hz
  ·refine x_mv rfl rfl trivial (henv.base.get 13 _ rfl) ?_
   refine xl_nil ?_
   have hz := (hw.b [opt (5 ∈ D) _]).tail
   refine ⟨_, henv.step 5 30 rfl rfl rfl, step_parts [0, 1, 2, 3, 4] [6, 7, 8, 9] (by decide) (by decide) ?_⟩
   rw [hPT]
   rw [hPT] at hz
   exact emp_in rfl hz
  ·have hd := hdep 5 (by kernel_rfl)
   have hu := opt_yes hd (hw.b [opt (5 ∈ D) _])
   try rw [hPT] at hu
   obtain ⟨h1, -⟩ := Sat.lift_out hu
   refine x_bs1 (cs := [.slice (some ⟨bb1, ob1, none⟩) (rl.length - n) bc]) rfl rfl trivial U_sl_sl_api_Item sz_sl_api_Item zs_sl_api_Item (by decide) ((henv.slot 5 30 (by simp) hd).trans (congrArg some h1)) rfl rfl hw rfl (fun w b hw => ?_)
   refine xl_nil ?_
   have hz := (hw.b [opt (6 ∈ D) _, blk b _ _]).tail
   refine ⟨_, henv.step 6 31 rfl rfl rfl, step_parts [0, 1, 2, 3, 4, 5] [7, 8, 9] (by decide) (by decide) ?_⟩
   rw [hPT]
   rw [hPT] at hz
   exact Sat.ex_in b (Sat.lift_in rfl hz)
  ·have hd1 := hdep 4 (by kernel_rfl)
   have hd2 := hdep 6 (by kernel_rfl)
   have hu := opt_yes hd1 (hw.b [opt (4 ∈ D) _])
   try rw [hPT] at hu
   obtain ⟨h1, -⟩ := Sat.lift_out hu
   have hu := opt_yes hd2 (hw.b [opt (6 ∈ D) _])
   try rw [hPT] at hu
   obtain ⟨bs, hu⟩ := Sat.ex_out (F := fun b => lift (val 6 = .slice (some ⟨b, 0, none⟩) 1 1) (blk b [.slice (some ⟨bb1, ob1, none⟩) (rl.length - n) bc] 73)) hu
   obtain ⟨h2, hw⟩ := hu.lift_out
   have g1 := (henv.slot 4 29 (by simp) hd1).trans (congrArg some h1)
   have g2 := (henv.slot 6 31 (by simp) hd2).trans (congrArg some h2)
   refine x_call (args := [.agg q.cells.toArray, .slice (some ⟨bs, 0, none⟩) 1 1]) rfl rfl trivial cal_node_with (by simp [evs, ev, g1, g2]) (ct_node_with (p := q) (pcs := [(.slice (some ⟨bb1, ob1, none⟩) (rl.length - n) bc, rl.drop n)]) hw (hq.of sF) (((slV_blk (cs := [.slice (some ⟨bb1, ob1, none⟩) (rl.length - n) bc])).head _).of sF) (by
    intro y hy
    simp only [List.mem_cons, List.not_mem_nil, or_false] at hy
    subst hy; exact htb.of sF) (by simp) (by
    intro y hy
    simp only [List.mem_cons, List.not_mem_nil, or_false] at hy
    subst hy; simp only [List.length_take, List.length_drop]; omega)) rfl (fun w v hv => ?_)
   obtain ⟨p1, rfl, hp1, hs1, hw⟩ := hv
   refine xl_nil ?_
   have hz := hw.b [blk bs _ _]
   have hz := opt_mk (c := 6 ∈ D) (A := PT 6 (val 6)) (by rw [hPT]; exact Sat.ex_in bs (Sat.lift_in h2 hz))
   have hz := (hz.b [opt (7 ∈ D) _, pgO p1, opt (0 ∈ D) _, opt (1 ∈ D) _, opt (2 ∈ D) _, opt (3 ∈ D) _, opt (4 ∈ D) _, opt (5 ∈ D) _, opt (6 ∈ D) _, opt (8 ∈ D) _, opt (9 ∈ D) _]).tail
   refine ⟨_, henv.step 7 32 rfl rfl rfl, step_parts [0, 1, 2, 3, 4, 5, 6] [8, 9] (by decide) (by decide) ?_⟩
   rw [hPT]
   rw [hPT] at hz
   exact Sat.ex_in p1 (Sat.lift_in ⟨rfl, by rw [hp1]; simp, hs1⟩ hz)
  ·refine x_alloc rfl rfl trivial z_api_Page hw rfl (fun w b hw => ?_)
   refine xl_nil ?_
   have hz := (hw.b [opt (8 ∈ D) _, blk b _ _]).tail
   refine ⟨_, henv.step 8 14 rfl rfl rfl, step_parts [0, 1, 2, 3, 4, 5, 6, 7] [9] (by decide) (by decide) ?_⟩
   rw [hPT]
   rw [hPT] at hz
   exact Sat.ex_in b (Sat.lift_in rfl hz)
  refine x_alloc rfl rfl trivial z_api_Page hw rfl (fun w b hw => ?_)
  refine xl_nil ?_
  have hz := (hw.b [opt (9 ∈ D) _, blk b _ _]).tail
  refine ⟨_, henv.step 9 15 rfl rfl rfl, step_parts [0, 1, 2, 3, 4, 5, 6, 7, 8] [] (by decide) (by decide) ?_⟩
  rw [hPT]
  rw [hPT] at hz
  exact Sat.ex_in b (Sat.lift_in rfl hz)
 clear hw
 intro D e w hall ⟨val, henv, hw⟩
 simp only [List.map_cons, List.map_nil, List.cons_append, List.nil_append] at hw
 have hd3 := hall 3 (by simp)
 have hu := opt_yes hd3 (hw.b [opt (3 ∈ D) _])
 try rw [hPT] at hu
 obtain ⟨p1, hu⟩ := Sat.ex_out (F := fun p1 : PgV => lift (val 3 = .agg p1.cells.toArray ∧ p1.pg = ⟨p.kind, p.level, (rl.take n).map ItV.it, p.data, p.next⟩ ∧ p1.Sm) (pgO p1)) hu
 obtain ⟨⟨hv3, hp1, hs1⟩, hw⟩ := hu.lift_out
 have hd7 := hall 7 (by simp)
 have hu := opt_yes hd7 (hw.b [opt (7 ∈ D) _])
 try rw [hPT] at hu
 obtain ⟨p2, hu⟩ := Sat.ex_out (F := fun p1 : PgV => lift (val 7 = .agg p1.cells.toArray ∧ p1.pg = ⟨q.kind, q.level, (rl.drop n).map ItV.it, q.data, q.next⟩ ∧ p1.Sm) (pgO p1)) hu
 obtain ⟨⟨hv7, hp2, hs2⟩, hw⟩ := hu.lift_out
 have hd8 := hall 8 (by simp)
 have hu := opt_yes hd8 (hw.b [opt (8 ∈ D) _])
 try rw [hPT] at hu
 obtain ⟨b14, hu⟩ := Sat.ex_out (F := fun b => lift (val 8 = .pointer (some ⟨b, 0, none⟩)) (blk b pgZ.cells 75)) hu
 obtain ⟨hv8, hw⟩ := hu.lift_out
 have hd9 := hall 9 (by simp)
 have hu := opt_yes hd9 (hw.b [opt (9 ∈ D) _])
 try rw [hPT] at hu
 obtain ⟨b15, hu⟩ := Sat.ex_out (F := fun b => lift (val 9 = .pointer (some ⟨b, 0, none⟩)) (blk b pgZ.cells 75)) hu
 obtain ⟨hv9, hw⟩ := hu.lift_out
 refine xl_weaken (Sub.cons ((henv.slot 8 14 (by simp) hd8).trans (congrArg some hv8)) (Sub.cons ((henv.slot 9 15 (by simp) hd9).trans (congrArg some hv9)) (Sub.cons ((henv.slot 3 28 (by simp) hd3).trans (congrArg some hv3)) (Sub.cons ((henv.slot 7 32 (by simp) hd7).trans (congrArg some hv7)) henv.base)))) ?_
 have hz := hw.b [pgO p1, pgO p2, blk b14 _ _, blk b15 _ _, blk b9 _ _, blk b8 _ _, blk b5 _ _, blk b4 _ _]
 have hz := hz.b [opt (0 ∈ D) _, opt (1 ∈ D) _, opt (2 ∈ D) _, opt (4 ∈ D) _, opt (5 ∈ D) _, opt (6 ∈ D) _]
 have hw := hz.tail.tail.tail.tail.tail.tail
 refine x_stN (cs := p1.cells) (l' := p1.cells) rfl trivial rfl rfl many_api_Page rfl (ones_pg (pgParts_ok hs1 pK) hw) hw pK (by simp [PgV.cells]) rfl rfl (fun w hw => ?_)
 refine x_stN (cs := p2.cells) (l' := p2.cells) rfl trivial rfl rfl many_api_Page rfl (ones_pg (pgParts_ok hs2 pK) hw) hw pK (by simp [PgV.cells]) rfl rfl (fun w hw => ?_)
 refine z5 ?_
 refine lD (v := .int .i64 p.kind) one_int hw ?_
 refine z2 ?_
 refine x_if rfl (fun h1 => ?_) (fun h1 => ?_)
 ·
  have hk2 : p.kind = 2 := h1
  have hl2 : p2.l.map ItV.it = (rl.drop n).map ItV.it := by have h := congrArg Pg.items hp2; simpa [PgV.pg] using h
  have hl2n : p2.l.length = rl.length - n := by have h := congrArg List.length hl2; rw [List.length_map, List.length_map, List.length_drop] at h; exact h
  rcases p2 with ⟨kd, lv, l2, sv2, d2, dt2, nx⟩
  simp only at hl2 hl2n
  obtain ⟨x0, r0, rfl⟩ : ∃ x0 r0, l2 = x0 :: r0 := by
   cases l2 with
   | nil => simp at hl2n; omega
   | cons x0 r0 => exact ⟨x0, r0, rfl⟩
  have hx0 : x0.it = xb.it := by
   rw [drop_cons hxb, List.map_cons, List.map_cons] at hl2
   exact (List.cons.inj hl2).1
  have hz := Sat.both_out (M := pgParts _) (hw.b [pgO ⟨kd, lv, x0 :: r0, sv2, d2, dt2, nx⟩])
  simp only [pgParts, List.flatMap_cons, itParts, List.cons_append, List.nil_append, List.length_cons] at hz
  obtain ⟨sa, sc, rfl⟩ := row_form (hz.pick (A := row 114 4 sv2 (r0.length + 1) _) .here)
  have hdo : d2.oneCell' = true := by obtain ⟨da, dc, hd⟩ := row_form (hz.pick (A := row 5 1 d2 _ _) pK); rw [hd]; rfl
  clear hw
  have hw := hz
  obtain ⟨hfl, sb, cur, rfl, hcc, hcm, hcl, hw⟩ := row_some hw (by omega)
  refine z3 ?_
  refine lD (v := .slice (some ⟨sb, 0, none⟩) (r0.length + 1) sc) one_sl_api_Item hw ?_
  refine x_idx rfl rfl trivial U_sl_api_Item sz_api_Item rfl rfl ⟨by omega, by omega⟩ ?_
  refine x_fldk rfl rfl trivial fo_api_Item_0 rfl ?_
  refine lD (v := x0.kv) one_sl_uint8 hw ?_
  refine z5 ?_
  refine lD (v := .slice (some ⟨sb, 0, none⟩) (r0.length + 1) sc) one_sl_api_Item hw ?_
  refine x_idx rfl rfl trivial U_sl_api_Item sz_api_Item rfl rfl ⟨by omega, by omega⟩ ?_
  refine x_fldk rfl rfl trivial fo_api_Item_0 rfl ?_
  refine x_st1 (l' := (((⟨{ x0.it with key := [] }, .slice none 0 0, x0.vv⟩ :: r0 : List ItV)).map ItV.cells).flatten ++ cur) rfl trivial rfl rfl one_sl_uint8 rfl hw pK (by simp [ItV.cells]) rfl rfl (fun w hw => ?_)
  refine z2 ?_
  refine x_draw [0, 1, 2, 3, 4, 5, 6] mixed (by kernel_rfl) ?_
  replace hw := hw.drawn (w.drawn + 1)
  refine lA (l := p1.cells) many_api_Page hw ?_
  refine lA (l := PgV.cells ⟨kd, lv, x0 :: r0, .slice (some ⟨sb, 0, none⟩) (r0.length + 1) sc, d2, dt2, nx⟩) many_api_Page hw ?_
  refine z1 ?_
  refine x_stNP (cs := p1.cells) (l' := p1.cells) rfl trivial rfl rfl many_api_Page rfl (ones_pg (pgParts_ok hs1 pK) hw) hw pK (by simp [PgV.cells]) rfl (fun w hw q' hq => ?_) (fun w hw => ?_)
  ·
   have hq := pend_mem (l := [1]) (by kernel_rfl) hq
   simp only [List.mem_cons, List.not_mem_nil, or_false] at hq
   subst hq
   exact chk_ld rfl rfl rfl (Loads.blkA (l := PgV.cells ⟨kd, lv, x0 :: r0, .slice (some ⟨sb, 0, none⟩) (r0.length + 1) sc, d2, dt2, nx⟩) many_api_Page hw pK rfl)
  refine x_stN (cs := PgV.cells ⟨kd, lv, x0 :: r0, .slice (some ⟨sb, 0, none⟩) (r0.length + 1) sc, d2, dt2, nx⟩) (l' := PgV.cells ⟨kd, lv, x0 :: r0, .slice (some ⟨sb, 0, none⟩) (r0.length + 1) sc, d2, dt2, nx⟩) rfl trivial rfl rfl many_api_Page rfl (by intro u hu; simp [PgV.cells] at hu; rcases hu with rfl | rfl | rfl | rfl | rfl <;> first | rfl | exact hdo) hw pK (by simp [PgV.cells]) rfl (by kernel_rfl) (fun w hw => ?_)
  refine z4 ?_
  obtain ⟨p3, hp3⟩ : ∃ p3 : PgV, p3 = ⟨kd, lv, ⟨{ x0.it with key := [] }, .slice none 0 0, x0.vv⟩ :: r0, .slice (some ⟨sb, 0, none⟩) (r0.length + 1) sc, d2, dt2, nx⟩ := ⟨_, rfl⟩
  refine end4 rfl rfl ⟨_, rfl, (Loads.blkA (l := p1.cells) many_api_Page hw pK rfl)⟩ ⟨_, rfl, (Loads.blkA (l := PgV.cells ⟨kd, lv, x0 :: r0, .slice (some ⟨sb, 0, none⟩) (r0.length + 1) sc, d2, dt2, nx⟩) many_api_Page hw pK rfl)⟩ rfl rfl (.inr ⟨p1, p3, xb.it.key, x0.kv, ?_, by rw [hp3]; rfl, hs1, ?_, ?_⟩)
  ·unfold partedP
   rw [show p.pg.kind = p.kind from rfl, if_pos hk2, keyAt_eq hxb, hp1]
   have e2 := hp2
   simp only [PgV.pg] at e2 ⊢
   rw [hp3]
   simp only [Pg.mk.injEq] at e2
   obtain ⟨e3, e4, e5, e6, e7⟩ := e2
   simp only [List.map_cons] at e5 ⊢
   simp only [← List.map_take, ← List.map_drop, Option.some.injEq, Prod.mk.injEq, Pg.mk.injEq]
   rw [drop_cons hxb] at e5 ⊢
   simp only [List.map_cons, nilKey, List.cons.injEq] at e5 ⊢
   have e8 : xb.it.key = x0.it.key := by rw [hx0]
   first | exact ⟨trivial, ⟨e3.symm, e4.symm, ⟨by rw [← hx0], e5.2.symm⟩, e6.symm, e7.symm⟩, trivial⟩ | simp_all
  ·rw [hp3]
   exact ⟨hs2.len, fun y hy => by
    rcases List.mem_cons.1 hy with rfl | hy
    ·exact ⟨by unfold Small; simp, (hs2.it x0 (List.mem_cons_self ..)).2⟩
    ·exact hs2.it y (List.mem_cons_of_mem _ hy), hs2.sd⟩
  have hz := hw.b [both (row 5 1 x0.kv x0.it.key.length (bys x0.it.key) :: row 5 1 x0.vv x0.it.value.length (bys x0.it.value) :: r0.flatMap itParts)]
  have hz := hz.both_uncons
  have hz := (row_nil hz 5 1).b [row 5 1 (.slice none 0 0) 0 [], both (row 5 1 x0.vv x0.it.value.length (bys x0.it.value) :: r0.flatMap itParts)]
  have hz := both_cons hz
  have hz := hz.b [blk sb _ _]
  have hz := row_mk (m := r0.length + 1) (z := 4) hz (by rw [flatten_length (cells_z _)]; simp) hcc hcm (by rw [← hcl, cells_len, cells_len]; simp)
  have hz := hz.b [row 114 4 _ _ _, both (row 5 1 (.slice none 0 0) 0 [] :: _), row 5 1 d2 _ _]
  have hz := Sat.both_in (M := pgParts p3) (by rw [hp3]; exact hz)
  have hz := hz.b [blk b4 _ _, blk b5 _ _, blk b8 _ _, blk b9 _ _, blk b14 _ _, blk b15 _ _, pgO p1, both (pgParts p3), row 5 1 x0.kv _ _]
  have hz := hz.tail.tail.tail.tail.tail.tail
  rw [hx0] at hz
  exact hz
 have hk2 : ¬ p.kind = 2 := h1
 have hxar : ((rl.take n).map ItV.cells)[n - 1]? = some xa.cells := by rw [List.getElem?_map, List.getElem?_take_of_lt (by omega), hxa]; rfl
 have hxbr : ((rl.drop n).map ItV.cells)[0]? = some xb.cells := by rw [List.getElem?_map, List.getElem?_drop, Nat.add_zero, hxb]; rfl
 have hxao := hr.it xa (List.mem_of_getElem? hxa)
 have hxbo := hr.it xb (List.mem_of_getElem? hxb)
 refine z2 ?_
 refine x_draw [0, 1, 2, 3, 4, 5, 6, 7, 8, 9, 10, 11, 12, 13, 14, 15] mixed (by kernel_rfl) ?_
 replace hw := hw.drawn (w.drawn + 1)
 refine z3 ?_
 refine x_idx rfl rfl trivial U_sl_api_Item sz_api_Item rfl rfl ⟨by omega, by omega⟩ ?_
 refine x_fldk rfl rfl trivial fo_api_Item_0 rfl ?_
 refine x_ld rfl rfl trivial rfl (Loads.one (v := xa.kv) one_sl_uint8 (by have h := ((hta.of sF).sl.at hw).cell (k := n - 1) (j := 0) hxar rfl; rw [Int.toNat_natCast] at h; rw [show ((n : Int) - 1).toNat = n - 1 by omega]; exact h)) ?_
 refine z1 ?_
 refine x_idx rfl rfl trivial U_sl_api_Item sz_api_Item rfl rfl ⟨by omega, by omega⟩ ?_
 refine x_fldk rfl rfl trivial fo_api_Item_0 rfl ?_
 refine x_ld rfl rfl trivial rfl (Loads.one (v := xb.kv) one_sl_uint8 (((htb.of sF).sl.at hw).cell (k := 0) (j := 0) hxbr rfl)) ?_
 refine x_call rfl rfl trivial cal_span_Between rfl (ct_span_Between hw (hxao.k.of sF) (hxbo.k.of sF) hxao.sk hxbo.sk) (by kernel_rfl) (fun w v59 hv => ?_)
 have hv2 : ∃ (sv : Value) (bb : Bool), v59 = .tuple #[sv, .bool bb] := by
  rcases hv with ⟨_, h, _⟩ | ⟨_, _, _, h, _⟩
  ·exact ⟨_, _, h⟩
  exact ⟨_, _, h⟩
 obtain ⟨sv, bo, rfl⟩ := hv2
 refine z10 ?_
 refine x_not rfl rfl trivial rfl ?_
 refine xl_nil ?_
 refine x_cond rfl (fun h2 => ?_) (fun h2 => ?_)
 ·
  have hv := hv.resolve_right (fun h => by obtain ⟨_, _, _, h, _⟩ := h; cases h; simp at h2)
  obtain ⟨hbn, -, hw⟩ := hv
  refine z2 ?_
  refine x_build (v := .agg pgZ.cells.toArray) rfl rfl trivial rfl (fun w => by kernel_rfl) ?_
  refine x_build (v := .agg pgZ.cells.toArray) rfl rfl trivial rfl (fun w => by kernel_rfl) ?_
  refine x_stN (cs := pgZ.cells) (l' := pgZ.cells) rfl trivial rfl rfl many_api_Page rfl pgZ_ones hw pK (by simp [pgZ, PgV.cells]) rfl rfl (fun w hw => ?_)
  refine x_stN (cs := pgZ.cells) (l' := pgZ.cells) rfl trivial rfl rfl many_api_Page rfl pgZ_ones hw pK (by simp [pgZ, PgV.cells]) rfl rfl (fun w hw => ?_)
  refine z4 ?_
  refine end4 rfl rfl ⟨_, rfl, (Loads.blkA (l := pgZ.cells) many_api_Page hw pK rfl)⟩ ⟨_, rfl, (Loads.blkA (l := pgZ.cells) many_api_Page hw pK rfl)⟩ rfl rfl (.inl ⟨?_, rfl, ?_⟩)
  ·unfold partedP
   rw [show p.pg.kind = p.kind from rfl, if_neg hk2, keyAt_eq hxa, keyAt_eq hxb, hbn]
  exact (hw.b [blk b4 _ _, blk b5 _ _, blk b8 _ _, blk b9 _ _, blk b14 _ _, blk b15 _ _, pgO p1, pgO p2]).tail.tail.tail.tail.tail.tail.tail.tail
 have hv := hv.resolve_left (fun h => by have h := h.2.1; cases h; simp at h2)
 obtain ⟨s, v, hbs, he, hw⟩ := hv
 obtain ⟨rfl, rfl⟩ : sv = v ∧ bo = true := by cases he; exact ⟨rfl, rfl⟩
 refine z2 ?_
 refine x_draw [0, 1, 2, 3, 4, 5, 6] mixed (by kernel_rfl) ?_
 replace hw := hw.drawn (w.drawn + 1)
 refine lA (l := p1.cells) many_api_Page hw ?_
 refine lA (l := p2.cells) many_api_Page hw ?_
 refine z1 ?_
 refine x_stNP (cs := p1.cells) (l' := p1.cells) rfl trivial rfl rfl many_api_Page rfl (ones_pg (pgParts_ok hs1 pK) hw) hw pK (by simp [PgV.cells]) rfl (fun w hw q' hq => ?_) (fun w hw => ?_)
 ·
  have hq := pend_mem (l := [1]) (by kernel_rfl) hq
  simp only [List.mem_cons, List.not_mem_nil, or_false] at hq
  subst hq
  exact chk_ld rfl rfl rfl (Loads.blkA (l := p2.cells) many_api_Page hw pK rfl)
 refine x_stN (cs := p2.cells) (l' := p2.cells) rfl trivial rfl rfl many_api_Page rfl (ones_pg (pgParts_ok hs2 pK) hw) hw pK (by simp [PgV.cells]) rfl (by kernel_rfl) (fun w hw => ?_)
 refine z4 ?_
 refine end4 rfl rfl ⟨_, rfl, (Loads.blkA (l := p1.cells) many_api_Page hw pK rfl)⟩ ⟨_, rfl, (Loads.blkA (l := p2.cells) many_api_Page hw pK rfl)⟩ rfl rfl (.inr ⟨p1, p2, s, sv, ?_, rfl, hs1, hs2, ?_⟩)
 ·unfold partedP
  rw [show p.pg.kind = p.kind from rfl, if_neg hk2, keyAt_eq hxa, keyAt_eq hxb, hbs, hp1, hp2]
  simp [PgV.pg]
 exact (hw.b [blk b4 _ _, blk b5 _ _, blk b8 _ _, blk b9 _ _, blk b14 _ _, blk b15 _ _, pgO p1, pgO p2]).tail.tail.tail.tail.tail.tail
theorem ct_node_Split {p : PgV} (hw : Sat G L w) (hp : p.Ok L) : Calls Tryz.prog 175 #[.agg p.cells.toArray] w (Ret fun r w' =>
  (splitP p.pg = none ∧ r = .tuple #[.agg pgZ.cells.toArray, .agg pgZ.cells.toArray, .slice none 0 0, .bool false] ∧ Sat G L w') ∨
  (∃ (pl pr : PgV) (s : Bys) (sv : Value), splitP p.pg = some (pl.pg, pr.pg, s) ∧ r = .tuple #[.agg pl.cells.toArray, .agg pr.cells.toArray, sv, .bool true] ∧ pl.Sm ∧ pr.Sm ∧ Sat G (pgO pl :: pgO pr :: row 5 1 sv s.length (bys s) :: L) w')) := by
 obtain ⟨a1, c1, a2, c2, hs, hd, hcl⟩ := hp.form hw
 have hln := hp.its.len
 have hits := hp.its
 rw [hs] at hits
 refine calls_of_x (args := [_]) Tryz.func175 rfl Tryz.ntmps175 rfl rfl ?_
 refine z2 ?_
 refine x_box rfl rfl trivial rfl rfl hw rfl (fun w b1 hw => ?_)
 refine x_alloc rfl rfl trivial z_api_Page hw rfl (fun w b2 hw => ?_)
 refine x_alloc rfl rfl trivial z_api_Page hw rfl (fun w b3 hw => ?_)
 refine z6 ?_
 refine lA (l := p.cells) many_api_Page hw ?_
 refine x_call rfl rfl trivial cal_node_meant rfl (ct_node_meant (p := p) hw) rfl (fun w v7 hv => ?_)
 obtain ⟨rfl, hw⟩ := hv
 refine x_notp rfl rfl trivial rfl ?_
 refine z1 ?_
 refine xl_and (l1 := [4, 5, 6, 7, 8]) (l2 := []) rfl (d := 14) (¬ (p.kind = 1 ∨ p.kind = 2) ∨ ¬ p.l.length = 8) rfl ?_ ?_
 ·
  refine xl_split (d := 9) rfl (fun h1 => ?_) (fun h1 => ?_)
  ·
   refine z6 ?_
   refine cQ ?_
   first | exact (decide_eq_true (.inl (by simpa using h1))).symm | exact decide_eq_decide.2 ⟨fun h => .inr (by omega), fun h => by have h3 := h.resolve_left (fun h' => h1 (by simpa using h')); omega⟩
  refine z1 ?_
  refine x_ld rfl rfl ⟨_, rfl, rfl⟩ rfl (Loads.blk1 (v := .slice a1 p.l.length c1) one_sl_api_Item hw pK (by rw [hcl]; rfl)) ?_
  refine x_len rfl rfl ⟨_, rfl, rfl⟩ (by kernel_rfl) U_sl_api_Item rfl ?_
  refine z3 ?_
  refine cQ ?_
  first | exact (decide_eq_true (.inl (by simpa using h1))).symm | exact decide_eq_decide.2 ⟨fun h => .inr (by omega), fun h => by have h3 := h.resolve_left (fun h' => h1 (by simpa using h')); omega⟩
 refine xl_nil ?_
 refine x_if rfl (fun h2 => ?_) (fun h2 => ?_)
 ·
  refine z2 ?_
  refine x_build (v := .agg pgZ.cells.toArray) rfl rfl trivial rfl (fun w => by kernel_rfl) ?_
  refine x_build (v := .agg pgZ.cells.toArray) rfl rfl trivial rfl (fun w => by kernel_rfl) ?_
  refine x_stN (cs := pgZ.cells) (l' := pgZ.cells) rfl trivial rfl rfl many_api_Page rfl pgZ_ones hw pK (by simp [pgZ, PgV.cells]) rfl rfl (fun w hw => ?_)
  refine x_stN (cs := pgZ.cells) (l' := pgZ.cells) rfl trivial rfl rfl many_api_Page rfl pgZ_ones hw pK (by simp [pgZ, PgV.cells]) rfl rfl (fun w hw => ?_)
  refine z4 ?_
  exact end4 rfl rfl ⟨_, rfl, (Loads.blkA (l := pgZ.cells) many_api_Page hw pK rfl)⟩ ⟨_, rfl, (Loads.blkA (l := pgZ.cells) many_api_Page hw pK rfl)⟩ rfl rfl (.inl ⟨by unfold splitP; rw [if_pos]; simpa [PgV.pg] using h2, rfl, by
   have hz := (hw.b [blk b3 _ _, blk b2 _ _, blk b1 _ _]).tail.tail.tail
   exact hz⟩)
 have h2 : (p.kind = 1 ∨ p.kind = 2) ∧ p.l.length = 8 := by omega
 have hsp : splitP p.pg = partedP p.pg p.pg (p.l.map ItV.it) 4 := by unfold splitP; rw [if_neg]; rfl; simp [PgV.pg]; omega
 refine z3 ?_
 refine lA (l := p.cells) many_api_Page hw ?_
 refine lA (l := p.cells) many_api_Page hw ?_
 refine z1 ?_
 refine x_ld rfl rfl trivial rfl (Loads.blk1 (v := .slice a1 p.l.length c1) one_sl_api_Item hw pK (by rw [hcl]; rfl)) ?_
 refine x_call rfl rfl trivial cal_node_parted rfl (ct_node_parted (p := p) (q := p) (rl := p.l) (n := 4) hw (hp.of sF) (hp.of sF) (hits.of sF) (by omega) (by omega)) rfl (fun w v21 hv => ?_)
 have hv2 : ∃ (pl pr : PgV) (sv : Value) (bo : Bool) (L' : List Assn), v21 = .tuple #[.agg pl.cells.toArray, .agg pr.cells.toArray, sv, .bool bo] ∧ Ones pl.cells ∧ Ones pr.cells ∧ Sat G (blk b3 [.int .i64 0, .int .i64 0, .slice none 0 0, .slice none 0 0, .int .i64 0] 75 :: blk b2 [.int .i64 0, .int .i64 0, .slice none 0 0, .slice none 0 0, .int .i64 0] 75 :: blk b1 p.cells 75 :: L') w ∧
   ((splitP p.pg = none ∧ pl = pgZ ∧ pr = pgZ ∧ sv = .slice none 0 0 ∧ bo = false ∧ L' = L) ∨ (∃ s, splitP p.pg = some (pl.pg, pr.pg, s) ∧ bo = true ∧ pl.Sm ∧ pr.Sm ∧ L' = pgO pl :: pgO pr :: row 5 1 sv s.length (bys s) :: L)) := by
  rcases hv with ⟨h3, h4, h5⟩ | ⟨pl, pr, s, sv, h3, h4, h5, h6, h7⟩
  ·exact ⟨pgZ, pgZ, .slice none 0 0, false, L, h4, pgZ_ones, pgZ_ones, h5.b [blk b3 _ _, blk b2 _ _, blk b1 _ _], .inl ⟨hsp.trans h3, rfl, rfl, rfl, rfl, rfl⟩⟩
  exact ⟨pl, pr, sv, true, _, h4, ones_pg (pgParts_ok h5 pK) h7, ones_pg (pgParts_ok h6 pK) h7, h7.b [blk b3 _ _, blk b2 _ _, blk b1 _ _], .inr ⟨s, hsp.trans h3, rfl, h5, h6, rfl⟩⟩
 obtain ⟨pl, pr, sv, bo, L', rfl, ho1, ho2, hw, hcs⟩ := hv2
 refine z4 ?_
 refine x_stN (cs := pl.cells) (l' := pl.cells) rfl trivial rfl rfl many_api_Page rfl ho1 hw pK (by simp [PgV.cells]) rfl rfl (fun w hw => ?_)
 refine x_stN (cs := pr.cells) (l' := pr.cells) rfl trivial rfl rfl many_api_Page rfl ho2 hw pK (by simp [PgV.cells]) rfl rfl (fun w hw => ?_)
 refine z4 ?_
 refine end4 rfl rfl ⟨_, rfl, (Loads.blkA (l := pl.cells) many_api_Page hw pK rfl)⟩ ⟨_, rfl, (Loads.blkA (l := pr.cells) many_api_Page hw pK rfl)⟩ rfl rfl ?_
 have hz := (hw.b [blk b3 _ _, blk b2 _ _, blk b1 _ _]).tail.tail.tail
 rcases hcs with ⟨h3, rfl, rfl, rfl, rfl, rfl⟩ | ⟨s, h3, rfl, h5, h6, rfl⟩
 ·exact .inl ⟨h3, rfl, hz⟩
 exact .inr ⟨pl, pr, s, sv, h3, rfl, h5, h6, hz⟩
end
def Va.rd (V : Va) (n : Int) : Option Pg := if V.cnt n = 0 then none else some (V.pg n)
def loadG (rd : Int → Option Pg) (size : Int) : Nat → Int → Bys → Int × Bys
 | 0, _, out => (0, out)
 | f + 1, n, out => if size ≤ (out.length : Int) then (0, out) else match rd n with
  | none => (15, [])
  | some p => if p.kind ≠ 3 then (15, []) else if ¬ ((p.data.length : Int) = min (size - out.length) 480 ∧ (p.next = 0 ↔ size - out.length ≤ 480)) then (5, []) else loadG rd size f p.next (out ++ p.data)
def loadB (rd : Int → Option Pg) (x : It) : Int × Bys :=
 if (x.size < 0 ∨ 3840 < x.size) ∨ (x.size ≤ 32 ∧ ¬ (x.value.length : Int) = x.size) then (8, []) else if x.size ≤ 32 then (0, x.value) else loadG rd x.size x.size.toNat x.child []
theorem loadG_full (rd : Int → Option Pg) (size : Int) (f : Nat) (n : Int) (out : Bys) (h : size ≤ (out.length : Int)) : loadG rd size f n out = (0, out) := by
 cases f with
 | zero => rfl
 | succ f => rw [loadG, if_pos h]
section
variable {G : Gh} {L R : List Assn} {w : World}
theorem ct_vaA_Read {vq : Nat} {V : Va} {n : Int} (hw : Sat G (vaA vq V :: L) w) (hok : V.Ok) : Calls Tryz.prog 28 #[.pointer (some ⟨vq, 0, none⟩), .int .i64 n] w (Ret fun r w' => ∃ (p' : PgV) (er : Int) (A : Assn),
  r = .tuple #[.agg p'.cells.toArray, .int .i64 er] ∧ Ones p'.cells ∧ ((V.rd n = none ∧ er = 15 ∧ p' = pgZ ∧ A = both []) ∨ (V.rd n = some p'.pg ∧ er = 0 ∧ A = pgO p' ∧ p'.Sm)) ∧ Sat G (A :: vaA vq V :: L) w') := by
 obtain ⟨m, hf, hw⟩ := vaA_open hw
 obtain ⟨pm, hpf, hw⟩ := poA_open (hw.b [poA m.q V.po])
 have hz := hw.b [blk vq _ _, mapI _ _, stO _, blk m.q _ _, row 3 1 pm.cv V.po.c.length (ints V.po.c), row 4 1 pm.lv V.po.l.length (bls V.po.l)]
 refine ret_mono (ct_vault_Vault_Read (vq := vq) (pq := m.q) (om := m.om) (av := m.av) (floor := V.vf) (n := n) (p := plT V.po pm (tlP V.po.c V.po.l)) (on := m.on) (S := m.S) hz hok.po.len (fun hc => ?_)) fun r w' hr => ?_
 ·have h1 := hok.th n hc
  have h2 := hf.on n
  cases ho : onF m.on n with
  | none => rw [ho] at h2; exact absurd h2.symm h1
  | some pg => exact ⟨pg, rfl, hf.onS n pg ho, hf.sm pg (hf.onS n pg ho)⟩
 have back : ∀ {w' : World} {M : List Assn}, Sat G (M ++ (vtP vq m.q m.om m.av V.vf (plT V.po pm (tlP V.po.c V.po.l)) m.on m.S (row 170 2 m.av m.acs.length (m.acs.map actC).flatten :: both (m.acs.map wasO) :: L))) w' → True := fun _ => trivial
 rcases hr with ⟨hc, rfl, hw'⟩ | ⟨hc, pg, p', hpg, rfl, hpe, hps, hw'⟩
 ·refine ⟨pgZ, 15, both [], rfl, pgZ_ones, .inl ⟨if_pos hc, rfl, rfl, rfl⟩, Sat.both_in (M := []) ?_⟩
  have hz := hw'.b [blk m.q _ _, row 3 1 pm.cv V.po.c.length (ints V.po.c), row 4 1 pm.lv V.po.l.length (bls V.po.l), blk pm.fq _ _, row 232 _ _ _ _, row 227 _ _ _ _, paO m.q pm.acs]
  have hz := poA_shut hpf hz
  have hz := hz.b [blk vq _ _, mapI _ _, stO _, row 170 _ _ _ _, both (m.acs.map wasO), poA _ _]
  exact vaA_shut hf hz
 have hon := hf.on n
 rw [hpg] at hon
 refine ⟨p', 0, pgO p', rfl, ones_pg (pgParts_ok hps pK) hw', .inr ⟨?_, rfl, rfl, hps⟩, ?_⟩
 ·unfold Va.rd Va.cnt Va.pg
  have hc : ¬ V.po.cnt n = 0 := hc
  rw [if_neg hc, ← hon, hpe]; rfl
 have hz := hw'.b [blk m.q _ _, row 3 1 pm.cv V.po.c.length (ints V.po.c), row 4 1 pm.lv V.po.l.length (bls V.po.l), blk pm.fq _ _, row 232 _ _ _ _, row 227 _ _ _ _, paO m.q pm.acs]
 have hz := poA_shut hpf hz
 have hz := hz.b [blk vq _ _, mapI _ _, stO _, row 170 _ _ _ _, both (m.acs.map wasO), poA _ _]
 have hz := vaA_shut hf hz
 exact hz.b [pgO p', vaA vq V]
theorem ct_blob_Load {vq : Nat} {V : Va} {x : ItV} (hw : Sat G (vaA vq V :: L) w) (hok : V.Ok) (hx : x.Ok L) : Calls Tryz.prog 78 #[.pointer (some ⟨vq, 0, none⟩), .agg x.cells.toArray] w (Ret fun r w' => ∃ v, r = .tuple #[v, .int .i64 (loadB V.rd x.it).1] ∧ Sat G (row 5 1 v (loadB V.rd x.it).2.length (bys (loadB V.rd x.it).2) :: vaA vq V :: L) w') := by
 obtain ⟨a1, c1, a2, c2, hk, hv1, hcl⟩ := hx.form hw.tail
 have hsv := hx.sv
 unfold Small at hsv
 refine calls_of_x (args := [_, _]) Tryz.func78 rfl Tryz.ntmps78 rfl rfl ?_
 refine z2 ?_
 refine x_box rfl rfl trivial rfl rfl hw rfl (fun w b3 hw => ?_)
 refine z7 ?_
 refine lD (v := .int .i64 x.it.size) one_int hw ?_
 refine z2 ?_
 refine xl_and (l1 := [4, 5, 6, 7]) (l2 := [8, 9, 10, 11, 12, 13, 14, 15, 16, 17, 18, 19, 20]) rfl (d := 18) (x.it.size < 0 ∨ 3840 < x.it.size) rfl ?_ ?_
 ·
  refine xl_split (d := 14) rfl (fun h1 => ?_) (fun h1 => ?_)
  ·
   refine z5 ?_
   refine cQ ?_
   exact dC
  refine z1 ?_
  refine lD (v := .int .i64 x.it.size) one_int hw ?_
  refine z3 ?_
  refine cQ ?_
  exact dC
 refine z1 ?_
 refine xl_and (l1 := [9, 10, 11, 12, 13, 14, 15, 16, 17, 18, 19, 20]) (l2 := []) rfl (d := 31) ((x.it.size < 0 ∨ 3840 < x.it.size) ∨ (x.it.size ≤ 32 ∧ ¬ (x.it.value.length : Int) = x.it.size)) rfl ?_ ?_
 ·
  refine xl_split (d := 19) rfl (fun h2 => ?_) (fun h2 => ?_)
  ·
   refine z13 ?_
   refine cQ ?_
   first | exact (decide_eq_true (Or.inl (by assumption))).symm | exact decide_eq_decide.2 ⟨fun h => .inr h, fun h => h.resolve_left (by assumption)⟩
  refine z1 ?_
  refine lD (v := .int .i64 x.it.size) one_int hw ?_
  refine z2 ?_
  refine xl_and (l1 := [13, 14, 15, 16, 17, 18, 19]) (l2 := [20]) rfl (d := 30) (x.it.size ≤ 32 ∧ ¬ (x.it.value.length : Int) = x.it.size) rfl ?_ ?_
  ·
   refine xl_split (d := 23) rfl (fun h3 => ?_) (fun h3 => ?_)
   ·
    refine z1 ?_
    refine x_ld rfl rfl ⟨_, rfl, rfl⟩ rfl (Loads.blk1 (v := .slice a2 x.it.value.length c2) one_sl_uint8 hw pK (by rw [← hv1]; rfl)) ?_
    refine z2 ?_
    refine lD (v := .int .i64 x.it.size) one_int hw ?_
    refine z1 ?_
    refine x_pickT rfl rfl ⟨_, rfl, rfl⟩ rfl rfl rfl ?_
    refine xl_nil ?_
    refine cQ ?_
    first | exact decide_eq_decide.2 ⟨fun h => ⟨by assumption, h⟩, fun h => h.2⟩ | exact (decide_eq_false (fun h => by omega)).symm
   refine z6 ?_
   refine x_pickF rfl rfl ⟨_, rfl, rfl⟩ rfl rfl rfl ?_
   refine xl_nil ?_
   refine cQ ?_
   first | exact decide_eq_decide.2 ⟨fun h => ⟨by assumption, h⟩, fun h => h.2⟩ | exact (decide_eq_false (fun h => by omega)).symm
  refine z2 ?_
  refine cQ ?_
  first | exact (decide_eq_true (Or.inl (by assumption))).symm | exact decide_eq_decide.2 ⟨fun h => .inr h, fun h => h.resolve_left (by assumption)⟩
 refine xl_nil ?_
 refine x_if rfl (fun h4 => ?_) (fun h4 => ?_)
 ·
  refine z6 ?_
  exact end2 rfl rfl rfl rfl (by
 have e : loadB V.rd x.it = (8, []) := by unfold loadB; rw [if_pos h4]
 rw [e]
 exact ⟨_, rfl, row_nil (hw.b [blk b3 _ _]).tail _ _⟩)
 refine z5 ?_
 refine lD (v := .int .i64 x.it.size) one_int hw ?_
 refine z2 ?_
 refine x_if rfl (fun h5 => ?_) (fun h5 => ?_)
 ·
  refine z3 ?_
  refine lD (v := x.vv) one_sl_uint8 hw ?_
  refine x_call rfl rfl trivial cal_bytes_Clone rfl (ct_bytes_Clone hw (hx.v.of sF) hx.sv) rfl (fun w v37 hv => ?_)
  have hw : Sat G (row 5 1 v37 x.it.value.length (bys x.it.value) :: _) _ := hv
  refine z4 ?_
  exact end2 rfl rfl rfl rfl (by
 have e : loadB V.rd x.it = (0, x.it.value) := by unfold loadB; rw [if_neg h4, if_pos h5]
 rw [e]
 exact ⟨_, rfl, (hw.b [blk b3 _ _]).tail⟩)
 refine z4 ?_
 refine lD (v := .int .i64 x.it.size) one_int hw ?_
 refine x_mks rfl rfl trivial U_sl_uint8 sz_uint8 by_uint8 z_uint8 rfl rfl ⟨by omega, by omega⟩ (by omega) (by omega) hw rfl (fun w b40 hw => ?_)
 refine z6 ?_
 refine lD (v := .int .i64 x.it.child) one_int hw ?_
 refine z3 ?_
 have hld : loadB V.rd x.it = loadG V.rd x.it.size x.it.size.toNat x.it.child [] := by unfold loadB; rw [if_neg h4, if_neg h5]
 have hw := row_mk (xs := []) (m := 0) (cap := x.it.size.toNat) (z := 1) (by rw [List.nil_append]; exact hw) rfl (Nat.zero_le _) (by simp only [maxLen]; omega) (by simp [rep_length])
 refine x_loop (fun m e w => ∃ (f : Nat) (n : Int) (out : Bys) (u : Value), m = f + 1 ∧ e = [(0, .pointer (some ⟨vq, 0, none⟩)), (3, .pointer (some ⟨b3, 0, none⟩)), (6, u), (7, .int .i64 n)] ∧ (loadB V.rd x.it = loadG V.rd x.it.size f n out ∧ x.it.size ≤ out.length + f ∧ (out.length : Int) ≤ 3840) ∧ Sat G (row 5 1 u out.length (bys out) :: blk b3 x.cells 114 :: vaA vq V :: L) w)
  (m := x.it.size.toNat + 1) (e₀ := [(0, .pointer (some ⟨vq, 0, none⟩)), (3, .pointer (some ⟨b3, 0, none⟩)), (6, .slice (some ⟨b40, 0, none⟩) 0 x.it.size.toNat), (7, .int .i64 x.it.child)]) sB
  ⟨x.it.size.toNat, x.it.child, [], _, rfl, rfl, ⟨hld, by simp; omega, by simp⟩, hw⟩ ?_
 rintro m e w ⟨f, n, out, u, rfl, rfl, ⟨hlg, hf1, hf2⟩, hw⟩
 obtain ⟨ua, uc, rfl⟩ := row_form hw
 refine z6 ?_
 refine lD (v := .int .i64 x.it.size) one_int hw ?_
 refine z2 ?_
 refine x_if rfl (fun h6 => ?_) (fun h6 => ?_)
 ·
  obtain ⟨f, rfl⟩ : ∃ g, f = g + 1 := ⟨f - 1, by omega⟩
  rw [loadG, if_neg (by omega)] at hlg
  refine z6 ?_
  refine x_call rfl rfl trivial cal_vault_Vault_Read rfl (ct_vaA_Read (n := n) (hw.b [vaA vq V]) hok) rfl (fun w v51 hv => ?_)
  obtain ⟨p', er, A, rfl, hone, hcs, hw⟩ := hv
  refine z3 ?_
  refine x_alloc rfl rfl trivial z_api_Page hw rfl (fun w b8 hw => ?_)
  refine x_stN (cs := p'.cells) (l' := p'.cells) rfl trivial rfl rfl many_api_Page rfl hone hw pK (by simp [PgV.cells]) rfl rfl (fun w hw => ?_)
  refine z8 ?_
  refine xl_and (l1 := [3, 4, 5, 6]) (l2 := []) rfl (d := 60) (er ≠ 0 ∨ ¬ p'.kind = 3) rfl ?_ ?_
  ·
   refine xl_split (d := 56) rfl (fun h7 => ?_) (fun h7 => ?_)
   ·
    refine z5 ?_
    refine cQ ?_
    exact dC
   refine z1 ?_
   refine lD (v := .int .i64 p'.kind) one_int hw ?_
   refine z3 ?_
   refine cQ ?_
   exact dC
  refine xl_nil ?_
  refine x_if rfl (fun h8 => ?_) (fun h8 => ?_)
  ·
   refine z6 ?_
   exact end2 rfl rfl rfl rfl (by
 rcases hcs with ⟨hr, rfl, rfl, rfl⟩ | ⟨hr, rfl, rfl, hps⟩
 ·rw [hr] at hlg
  rw [hlg]
  exact ⟨_, rfl, row_nil (hw.b [blk b8 _ _, both _, row _ _ _ _ _, blk b3 _ _]).tail.tail.tail.tail _ _⟩
 ·rw [hr] at hlg
  simp only at hlg
  rw [if_pos (by show ¬ p'.kind = 3; omega)] at hlg
  rw [hlg]
  exact ⟨_, rfl, row_nil (hw.b [blk b8 _ _, pgO p', row _ _ _ _ _, blk b3 _ _]).tail.tail.tail.tail _ _⟩)
  obtain ⟨hr, rfl, rfl, hps⟩ := hcs.resolve_left (fun h => by have := h.2.1; omega)
  rw [hr] at hlg
  simp only at hlg
  rw [if_neg (by show ¬ ¬ p'.kind = 3; omega)] at hlg
  have hpo : p'.Ok [pgO p'] := pgParts_ok hps .here
  obtain ⟨da, dc, hd⟩ : ∃ da dc, p'.d = .slice da p'.data.length dc := by
   obtain ⟨a, c, h⟩ := (hpo.data.at (hw.pick (A := pgO p') pK).head).form
   exact ⟨a, c, h⟩
  refine z4 ?_
  refine lD (v := .int .i64 x.it.size) one_int hw ?_
  refine z9 ?_
  refine x_ld rfl rfl trivial rfl (Loads.blk1 (v := .slice da p'.data.length dc) one_sl_uint8 hw pK (by rw [← hd]; rfl)) ?_
  refine z2 ?_
  refine x_min2 rfl rfl trivial rfl rfl ?_
  refine z2 ?_
  refine xl_and (l1 := [7, 8, 9, 10, 11, 12, 13]) (l2 := []) rfl (d := 79) (¬ ((p'.data.length : Int) = min (x.it.size - out.length) 480 ∧ (p'.next = 0 ↔ x.it.size - out.length ≤ 480))) rfl ?_ ?_
  ·
   refine xl_split (d := 72) rfl (fun h9 => ?_) (fun h9 => ?_)
   ·
    refine z8 ?_
    refine cQ ?_
    first | (symm; rw [decide_eq_true_eq]; intro h; exact absurd h.1 h9) | (refine decide_eq_decide.2 ?_; have hq := Decidable.not_not.1 h9; by_cases ha : p'.next = 0 <;> by_cases hb : x.it.size - out.length ≤ 480 <;> simp [ha, hb, hq])
   refine z1 ?_
   refine lD (v := .int .i64 p'.next) one_int hw ?_
   refine z3 ?_
   refine x_neb rfl rfl ⟨_, rfl, rfl⟩ (by kernel_rfl) U_bool rfl rfl ?_
   refine z2 ?_
   refine cQ ?_
   first | (symm; rw [decide_eq_true_eq]; intro h; exact absurd h.1 h9) | (refine decide_eq_decide.2 ?_; have hq := Decidable.not_not.1 h9; by_cases ha : p'.next = 0 <;> by_cases hb : x.it.size - out.length ≤ 480 <;> simp [ha, hb, hq])
  refine xl_nil ?_
  refine x_if rfl (fun h10 => ?_) (fun h10 => ?_)
  ·
   refine z6 ?_
   exact end2 rfl rfl rfl rfl (by
 rw [if_pos (show ¬ ((p'.pg.data.length : Int) = min (x.it.size - out.length) 480 ∧ (p'.pg.next = 0 ↔ x.it.size - out.length ≤ 480)) from h10)] at hlg
 rw [hlg]
 exact ⟨_, rfl, row_nil (hw.b [blk b8 _ _, pgO p', row _ _ _ _ _, blk b3 _ _]).tail.tail.tail.tail _ _⟩)
  rw [if_neg (show ¬ ¬ ((p'.pg.data.length : Int) = min (x.it.size - out.length) 480 ∧ (p'.pg.next = 0 ↔ x.it.size - out.length ≤ 480)) from h10)] at hlg
  obtain ⟨hdl, hnx⟩ := Decidable.not_not.1 h10
  refine z5 ?_
  refine x_ld rfl rfl trivial rfl (Loads.blk1 (v := .slice da p'.data.length dc) one_sl_uint8 hw pK (by rw [← hd]; rfl)) ?_
  have hsb : SlB (.slice da p'.data.length dc) p'.data w := by rw [← hd]; exact hpo.data.at (hw.pick (A := pgO p') pK).head
  obtain ⟨db, od, dc', hda, -⟩ := hsb.arm (by omega)
  cases hda
  have hrd : Rd w ⟨db, od, none⟩ (bys p'.data) := by
   rcases hsb with ⟨_, h⟩ | ⟨_, _, _, h1, _, h3⟩
   ·rw [h] at hdl; simp only [List.length_nil] at hdl; omega
   cases h1; exact h3
  refine x_app (m := out.length) (k := p'.data.length) (news := bys p'.data) rfl rfl trivial U_sl_uint8 sz_uint8 by_uint8 zs_uint8 rfl rfl hw pK hrd (by rw [bys_length]; omega) (ones_bys _) (by simp only [maxLen]; omega) (by omega) rfl (fun w v83 hw => ?_)
  refine z4 ?_
  refine lD (v := .int .i64 p'.next) one_int hw ?_
  refine z2 ?_
  have hz := (hw.b [blk b8 _ _, pgO p', row _ _ _ _ _, blk b3 _ _, vaA vq V]).tail.tail
  refine ⟨f + 1, by omega, [(0, _), (3, _), (6, v83), (7, .int .i64 p'.next)], sB, f, p'.next, out ++ p'.data, v83, rfl, rfl, ⟨hlg, by rw [List.length_append]; omega, by rw [List.length_append]; omega⟩, ?_⟩
  rw [List.length_append, bys_append]; exact hz
 refine z8 ?_
 exact end2 rfl rfl rfl rfl (by
 rw [loadG_full _ _ _ _ _ (by omega)] at hlg
 rw [hlg]
 exact ⟨_, rfl, (hw.b [blk b3 _ _]).tail⟩)
end
def childAt (l : List It) (k : Nat) : Int := (l[k]?.map It.child).getD 0
def pathG (rd : Int → Option Pg) (key : Bys) : Nat → Int → List Int → Int × List Int
 | 0, _, out => (0, out)
 | f + 1, n, out => if f = 0 then (0, out ++ [n]) else match rd n with
  | none => (15, [])
  | some p => if ¬ p.kind = 2 then (15, []) else pathG rd key f (childAt p.items (routeK key p.items)) (out ++ [n])
def pathP (rd : Int → Option Pg) (t : Tr) (key : Bys) : Int × List Int := pathG rd key t.height.toNat t.root []
def getP (rd : Int → Option Pg) (t : Tr) (key : Bys) : Bys × Bool × Int :=
 if ¬ (1 ≤ key.length ∧ key.length ≤ 24) then ([], false, 7) else if (pathP rd t key).1 ≠ 0 ∨ (pathP rd t key).2 = [] then ([], false, (pathP rd t key).1) else
 match rd ((pathP rd t key).2.getLastD 0) with
 | none => ([], false, 15)
 | some p => if (searchK key p.items 0).2 = false then ([], false, 0) else match p.items[(searchK key p.items 0).1]? with
  | none => ([], false, 0)
  | some x => ((loadB rd x).2, decide ((loadB rd x).1 = 0), (loadB rd x).1)
theorem routeG_lt (key : Bys) : ∀ (l : List It) (a : Nat), 1 ≤ a → routeG key l a < a + l.length
 | [], a, h => by simp only [routeG, List.length_nil]; omega
 | x :: l, a, h => by
  have := routeG_lt key l (a + 1) (by omega)
  rw [routeG]
  split
  ·simp only [List.length_cons]; omega
  simp only [List.length_cons]; omega
theorem routeK_lt {key : Bys} {l : List It} (h : 0 < l.length) : routeK key l < l.length := by
 have := routeG_lt key (l.drop 1) 1 (Nat.le_refl _)
 rw [List.length_drop] at this
 unfold routeK; omega
theorem searchK_lt (key : Bys) : ∀ (l : List It) (a : Nat), (searchK key l a).2 = true → a ≤ (searchK key l a).1 ∧ (searchK key l a).1 < a + l.length
 | [], a, h => by simp [searchK] at h
 | x :: l, a, h => by
  rw [searchK] at h ⊢
  split
  ·simp only [List.length_cons]; omega
  rename_i h1
  rw [if_neg h1] at h
  have := searchK_lt key l (a + 1) h
  simp only [List.length_cons]; omega
theorem check_items {p : Pg} (h : checkP p = 0) : p.items.length ≤ 8 ∧ (p.kind = 2 → 2 ≤ p.items.length) ∧ (p.kind = 1 → 1 ≤ p.items.length) ∧ (1 ≤ p.kind ∧ p.kind ≤ 3) := by
 unfold checkP at h
 simp only [fst_zero_iff] at h
 have h1 := (mst_zero (by decide)).1 h.1.1
 have h2 := (mst_zero (by decide)).1 h.1.2
 unfold formN at h2
 refine ⟨?_, fun hk => ?_, fun hk => ?_, h1⟩
 ·rcases Decidable.em (p.kind = 1) with e | e
  ·have := h2.1 e; omega
  rcases Decidable.em (p.kind = 2) with e2 | e2
  ·have := h2.2.1 e2; omega
  have := h2.2.2 e e2; omega
 ·have := h2.2.1 hk; omega
 have := h2.1 hk; omega
theorem Va.rd_check {V : Va} (hok : V.Ok) {n : Int} {p : Pg} (h : V.rd n = some p) : checkP p = 0 := by
 unfold Va.rd at h
 split at h
 ·cases h
 rename_i hc
 cases h
 unfold Va.pg
 cases ho : V.on n with
 | none => exact absurd ho (hok.th n hc)
 | some q => exact hok.on n q ho
theorem path_len (rd : Int → Option Pg) (t : Tr) (key : Bys) (hh : t.height ≤ 1000000) : (pathP rd t key).2.length ≤ 1000000 := by
 have h : ∀ (f : Nat) (n : Int) (out : List Int), (pathG rd key f n out).2.length ≤ out.length + f := by
  intro f
  induction f with
  | zero => intro n out; simp [pathG]
  | succ f ih =>
   intro n out
   rw [pathG]
   split
   ·simp
   split
   ·simp
   split
   ·simp
   have := ih (childAt (‹Pg›).items (routeK key (‹Pg›).items)) (out ++ [n])
   rw [List.length_append, List.length_singleton] at this
   omega
 have := h t.height.toNat t.root []
 unfold pathP
 simp only [List.length_nil] at this
 omega
section
variable {G : Gh} {L R : List Assn} {w : World}
theorem ct_walk_Path {vq : Nat} {V : Va} {t : Tr} {kv : Value} {key : Bys} (hw : Sat G (vaA vq V :: L) w) (hok : V.Ok) (kk : Knows L (SlB kv key)) (hh : t.height ≤ 1000000) : Calls Tryz.prog 79 #[.pointer (some ⟨vq, 0, none⟩), .agg (treeC t).toArray, kv] w (Ret fun r w' => ∃ v, r = .tuple #[v, .int .i64 (pathP V.rd t key).1] ∧ Sat G (row 3 1 v (pathP V.rd t key).2.length (ints (pathP V.rd t key).2) :: vaA vq V :: L) w') := by
 refine calls_of_x (args := [_, _, _]) Tryz.func79 rfl Tryz.ntmps79 rfl rfl ?_
 refine z2 ?_
 refine x_box rfl rfl trivial rfl rfl hw rfl (fun w b4 hw => ?_)
 refine z10 ?_
 refine lD (v := .int .i64 t.root) one_int hw ?_
 refine z6 ?_
 refine lD (v := .int .i64 t.height) one_int hw ?_
 refine z3 ?_
 have hw := row_nil hw 3 1
 refine x_loop (fun m e w => ∃ (f : Nat) (h n : Int) (out : List Int) (u : Value), m = f + 1 ∧ e = [(0, .pointer (some ⟨vq, 0, none⟩)), (2, kv), (4, .pointer (some ⟨b4, 0, none⟩)), (8, u), (9, .int .i64 n), (10, .int .i64 h)] ∧ (pathP V.rd t key = pathG V.rd key f n out ∧ f = h.toNat ∧ h ≤ 1000000 ∧ (out.length : Int) + h.toNat ≤ 1000000) ∧ Sat G (row 3 1 u out.length (ints out) :: blk b4 (treeC t) 62 :: vaA vq V :: L) w)
  (m := t.height.toNat + 1) (e₀ := [(0, .pointer (some ⟨vq, 0, none⟩)), (2, kv), (4, .pointer (some ⟨b4, 0, none⟩)), (8, .slice none 0 0), (9, .int .i64 t.root), (10, .int .i64 t.height)]) sB
  ⟨t.height.toNat, t.height, t.root, [], _, rfl, rfl, ⟨rfl, rfl, hh, by simp; omega⟩, hw⟩ ?_
 rintro m e w ⟨f, h, n, out, u, rfl, rfl, ⟨hpg, hfh, hh1, hol⟩, hw⟩
 refine z6 ?_
 refine x_if rfl (fun h1 => ?_) (fun h1 => ?_)
 ·
  obtain ⟨f, rfl⟩ : ∃ g, f = g + 1 := ⟨f - 1, by omega⟩
  rw [pathG] at hpg
  refine z7 ?_
  refine x_bs1 rfl rfl trivial U_sl_int sz_int zs_int (by decide) rfl rfl rfl hw rfl (fun w b23 hw => ?_)
  refine x_app (m := out.length) (k := 1) (news := [.int .i64 n]) rfl rfl trivial U_sl_int sz_int by_int zs_int rfl rfl hw pK (Rd.blk0 hw pK) rfl (by intro u hu; simp at hu; subst hu; rfl) (by simp only [maxLen]; omega) (by omega) rfl (fun w v24 hw => ?_)
  have hz := (hw.b [blk b23 _ _]).tail
  have e1 : ints out ++ [Value.int .i64 n] = ints (out ++ [n]) := by simp [ints]
  have e2 : out.length + 1 = (out ++ [n]).length := by simp
  rw [e1, e2] at hz
  clear hw
  have hw := hz
  clear hz
  refine z8 ?_
  refine x_if rfl (fun h2 => ?_) (fun h2 => ?_)
  ·
   refine z8 ?_
   exact end2 rfl rfl rfl rfl (by
 rw [if_pos (by omega)] at hpg
 rw [hpg]
 exact ⟨_, rfl, (hw.b [blk b4 _ _]).tail⟩)
  rw [if_neg (by omega)] at hpg
  refine z5 ?_
  refine x_call rfl rfl trivial cal_vault_Vault_Read rfl (ct_vaA_Read (n := n) (hw.b [vaA vq V]) hok) rfl (fun w v30 hv => ?_)
  obtain ⟨p', er, A, rfl, hone, hcs, hw⟩ := hv
  refine z3 ?_
  refine x_alloc rfl rfl trivial z_api_Page hw rfl (fun w b11 hw => ?_)
  refine x_stN (cs := p'.cells) (l' := p'.cells) rfl trivial rfl rfl many_api_Page rfl hone hw pK (by simp [PgV.cells]) rfl rfl (fun w hw => ?_)
  refine z8 ?_
  refine x_if rfl (fun h3 => ?_) (fun h3 => ?_)
  ·
   refine z7 ?_
   exact end2 rfl rfl rfl rfl (by
 obtain ⟨hr, rfl, rfl, rfl⟩ := hcs.resolve_right (fun h => h3 h.2.1)
 rw [hr] at hpg
 rw [hpg]
 exact ⟨_, rfl, row_nil (hw.b [blk b11 _ _, both _, row _ _ _ _ _, blk b4 _ _]).tail.tail.tail.tail _ _⟩)
  obtain ⟨hr, rfl, rfl, hps⟩ := hcs.resolve_left (fun h => by have := h.2.1; omega)
  have hck := Va.rd_check hok hr
  rw [hr] at hpg
  simp only at hpg
  refine z5 ?_
  refine lD (v := .int .i64 p'.kind) one_int hw ?_
  refine z2 ?_
  refine x_if rfl (fun h4 => ?_) (fun h4 => ?_)
  ·
   refine z6 ?_
   exact end2 rfl rfl rfl rfl (by
 rw [if_pos (show ¬ p'.pg.kind = 2 from h4)] at hpg
 rw [hpg]
 exact ⟨_, rfl, row_nil (hw.b [blk b11 _ _, pgO p', row _ _ _ _ _, blk b4 _ _]).tail.tail.tail.tail _ _⟩)
  have h4 : p'.kind = 2 := Decidable.not_not.1 h4
  rw [if_neg (show ¬ ¬ p'.pg.kind = 2 from fun hx => hx h4)] at hpg
  have hit := (check_items hck).2.1 h4
  have hil : p'.pg.items.length = p'.l.length := by simp [PgV.pg]
  have hi8 := (check_items hck).1
  have hrl : routeK key p'.pg.items < p'.l.length := by rw [← hil]; exact routeK_lt (by omega)
  have hpo : p'.Ok [pgO p'] := pgParts_ok hps .here
  obtain ⟨ia, ic, hs⟩ : ∃ ia ic, p'.s = .slice ia p'.l.length ic := by
   obtain ⟨a, c, h, _⟩ := (hpo.its.sl.at (hw.pick (A := pgO p') pK).head).form
   rw [List.length_map] at h
   exact ⟨a, c, h⟩
  have hsl : SlT 4 (.slice ia p'.l.length ic) (p'.l.map ItV.cells) w := by rw [← hs]; exact hpo.its.sl.at (hw.pick (A := pgO p') pK).head
  obtain ⟨ib, io, hia⟩ := hsl.nn (by rw [List.length_map]; omega)
  obtain ⟨x, hx⟩ : ∃ x, p'.l[routeK key p'.pg.items]? = some x := ⟨_, List.getElem?_eq_getElem hrl⟩
  have hxr : (p'.l.map ItV.cells)[routeK key p'.pg.items]? = some x.cells := by rw [List.getElem?_map, hx]; rfl
  have hch : childAt p'.pg.items (routeK key p'.pg.items) = x.it.child := by unfold childAt; show (((p'.l.map ItV.it)[routeK key p'.pg.items]?).map It.child).getD 0 = _; rw [List.getElem?_map, hx]; rfl
  rw [hch] at hpg
  refine x_skip ?_
  refine x_draw [0, 1, 2, 3, 4, 5, 6, 7, 8] mixed (by kernel_rfl) ?_
  replace hw := hw.drawn (w.drawn + 1)
  refine z1 ?_
  refine x_ld rfl rfl trivial rfl (Loads.blk1 (v := .slice (some ⟨ib, io, none⟩) p'.l.length ic) one_sl_api_Item hw pK (by rw [← hia, ← hs]; rfl)) ?_
  refine lA (l := p'.cells) many_api_Page hw ?_
  refine z1 ?_
  refine x_callP rfl rfl trivial cal_node_Route rfl (ct_node_Route (p := p') hw (pgParts_ok hps pK) (kk.of sF)) (fun w v43 hv q' hq => ?_) (fun w v43 hv => ?_)
  ·
   obtain ⟨rfl, hw⟩ := hv
   have hq := pend_mem (l := [1]) (by kernel_rfl) hq
   simp only [List.mem_cons, List.not_mem_nil, or_false] at hq
   subst hq
   exact chk_ld rfl rfl rfl (Loads.blk1 (v := .slice (some ⟨ib, io, none⟩) p'.l.length ic) one_sl_api_Item hw pK (by rw [← hia, ← hs]; rfl))
  obtain ⟨rfl, hw⟩ := hv
  refine x_idx rfl rfl trivial U_sl_api_Item sz_api_Item rfl rfl ⟨by omega, by omega⟩ ?_
  refine x_fldk rfl rfl trivial fo_api_Item_2 rfl ?_
  refine x_ld rfl rfl trivial rfl (Loads.one (v := .int .i64 x.it.child) one_int (by
 have hsl : SlT 4 (.slice (some ⟨ib, io, none⟩) p'.l.length ic) (p'.l.map ItV.cells) w := by rw [← hia, ← hs]; exact hpo.its.sl.at (hw.pick (A := pgO p') pK).head
 exact hsl.cell (j := 2) hxr rfl)) ?_
  refine z7 ?_
  have hz := (hw.b [blk b11 _ _, pgO p', row 3 _ _ _ _, blk b4 _ _]).tail.tail
  refine ⟨f + 1, by omega, [(0, _), (2, _), (4, _), (8, v24), (9, .int .i64 x.it.child), (10, .int .i64 (h - 1))], sB, f, h - 1, x.it.child, out ++ [n], v24, rfl, rfl, ⟨hpg, by omega, by omega, by rw [List.length_append, List.length_singleton]; omega⟩, hz⟩
 refine z8 ?_
 exact end2 rfl rfl rfl rfl (by
 have hf0 : f = 0 := by omega
 subst hf0
 rw [pathG] at hpg
 rw [hpg]
 exact ⟨_, rfl, (hw.b [blk b4 _ _]).tail⟩)
theorem ct_walk_Get {vq : Nat} {V : Va} {t : Tr} {kv : Value} {key : Bys} (hw : Sat G (vaA vq V :: L) w) (hok : V.Ok) (kk : Knows L (SlB kv key)) (hh : t.height ≤ 1000000) : Calls Tryz.prog 41 #[.pointer (some ⟨vq, 0, none⟩), .agg (treeC t).toArray, kv] w (Ret fun r w' => ∃ v, r = .tuple #[v, .bool (getP V.rd t key).2.1, .int .i64 (getP V.rd t key).2.2] ∧ Sat G (row 5 1 v (getP V.rd t key).1.length (bys (getP V.rd t key).1) :: vaA vq V :: L) w') := by
 obtain ⟨ka, kc, rfl⟩ := (kk.at hw.tail).form
 refine calls_of_x (args := [_, _, _]) Tryz.func41 rfl Tryz.ntmps41 rfl rfl ?_
 refine z2 ?_
 refine x_box rfl rfl trivial rfl rfl hw rfl (fun w b4 hw => ?_)
 refine z11 ?_
 refine xl_and (l1 := [4, 5, 6, 7]) (l2 := []) rfl (d := 22) (¬ (1 ≤ key.length ∧ key.length ≤ 24)) rfl ?_ ?_
 ·
  refine xl_split (d := 18) rfl (fun h1 => ?_) (fun h1 => ?_)
  ·
   refine z5 ?_
   refine cQ ?_
   first | (symm; rw [decide_eq_true_eq]; omega) | (refine decide_eq_decide.2 ?_; omega)
  refine z5 ?_
  refine cQ ?_
  first | (symm; rw [decide_eq_true_eq]; omega) | (refine decide_eq_decide.2 ?_; omega)
 refine xl_nil ?_
 refine x_if rfl (fun h2 => ?_) (fun h2 => ?_)
 ·
  refine z7 ?_
  exact end3 rfl rfl rfl rfl rfl (by
 have e : getP V.rd t key = ([], false, 7) := by unfold getP; rw [if_pos h2]
 rw [e]
 exact ⟨_, rfl, row_nil (hw.b [blk b4 _ _]).tail _ _⟩)
 refine z4 ?_
 refine lA (l := treeC t) many_api_Tree hw ?_
 refine z1 ?_
 refine x_call rfl rfl trivial cal_walk_Path rfl (ct_walk_Path (t := t) (hw.b [vaA vq V]) hok (kk.of sF) hh) rfl (fun w v27 hv => ?_)
 obtain ⟨v, rfl, hw⟩ := hv
 obtain ⟨er, her⟩ : ∃ er, er = (pathP V.rd t key).1 := ⟨_, rfl⟩
 obtain ⟨way, hway⟩ : ∃ way, way = (pathP V.rd t key).2 := ⟨_, rfl⟩
 rw [← hway] at hw
 rw [← her]
 obtain ⟨wa, wc, rfl⟩ := row_form hw
 have hget : getP V.rd t key = if er ≠ 0 ∨ way = [] then ([], false, er) else
  match V.rd (way.getLastD 0) with
  | none => ([], false, 15)
  | some p => if (searchK key p.items 0).2 = false then ([], false, 0) else match p.items[(searchK key p.items 0).1]? with
   | none => ([], false, 0)
   | some x => ((loadB V.rd x).2, decide ((loadB V.rd x).1 = 0), (loadB V.rd x).1) := by unfold getP; rw [if_neg h2, ← her, ← hway]
 refine z12 ?_
 refine xl_and (l1 := [3, 4, 5, 6]) (l2 := []) rfl (d := 36) (er ≠ 0 ∨ way.length = 0) rfl ?_ ?_
 ·
  refine xl_split (d := 32) rfl (fun h3 => ?_) (fun h3 => ?_)
  ·
   refine z5 ?_
   refine cQ ?_
   exact dC
  refine z1 ?_
  refine x_len rfl rfl ⟨_, rfl, rfl⟩ (by kernel_rfl) U_sl_int rfl ?_
  refine z3 ?_
  refine cQ ?_
  exact dC
 refine xl_nil ?_
 refine x_if rfl (fun h4 => ?_) (fun h4 => ?_)
 ·
  refine z8 ?_
  exact end3 rfl rfl rfl rfl rfl (by
 rw [if_pos (by rcases h4 with h | h; exact .inl h; exact .inr (List.eq_nil_of_length_eq_zero h))] at hget
 rw [hget]
 exact ⟨_, rfl, row_nil (hw.b [row 3 _ _ _ _, blk b4 _ _]).tail.tail _ _⟩)
 rw [if_neg (fun h => h4 (by rcases h with h | h; exact .inl h; exact .inr (by rw [h]; rfl)))] at hget
 have hwl : 0 < way.length := by omega
 obtain ⟨n, hn⟩ : ∃ n, way[way.length - 1]? = some n := ⟨_, List.getElem?_eq_getElem (by omega)⟩
 have hlast : way.getLastD 0 = n := by
  rw [List.getLastD_eq_getLast?, List.getLast?_eq_getElem?, hn]; rfl
 rw [hlast] at hget
 have hrow : SlV (.slice wa way.length wc) (ints way) w := (rowVs (T := 3) (n := way.length) (v := .slice wa way.length wc) (by rw [ints_length]) pK).at hw
 have hwb : way.length ≤ 1000000000000 := by
  have hpl := path_len V.rd t key hh
  rw [← hway] at hpl; omega
 obtain ⟨wb, wo, rfl⟩ := hrow.nn (by rw [ints_length]; omega)
 refine z8 ?_
 refine x_idx1 rfl rfl trivial U_sl_int sz_int rfl rfl ⟨by omega, by omega⟩ ?_
 refine x_ld rfl rfl trivial rfl (Loads.one (v := .int .i64 n) one_int (hrow.at (by rw [show ((way.length : Int) - 1).toNat = way.length - 1 by omega]; simp only [ints, List.getElem?_map, hn]; rfl))) ?_
 refine x_call rfl rfl trivial cal_vault_Vault_Read rfl (ct_vaA_Read (n := n) (hw.b [vaA vq V]) hok) rfl (fun w v46 hv => ?_)
 obtain ⟨p', er', A, rfl, hone, hcs, hw⟩ := hv
 refine z3 ?_
 refine x_alloc rfl rfl trivial z_api_Page hw rfl (fun w b11 hw => ?_)
 refine x_stN (cs := p'.cells) (l' := p'.cells) rfl trivial rfl rfl many_api_Page rfl hone hw pK (by simp [PgV.cells]) rfl rfl (fun w hw => ?_)
 refine z8 ?_
 refine x_if rfl (fun h5 => ?_) (fun h5 => ?_)
 ·
  refine z8 ?_
  exact end3 rfl rfl rfl rfl rfl (by
 obtain ⟨hr, rfl, rfl, rfl⟩ := hcs.resolve_right (fun h => h5 h.2.1)
 rw [hr] at hget
 rw [hget]
 exact ⟨_, rfl, row_nil (hw.b [blk b11 _ _, both _, row 3 _ _ _ _, blk b4 _ _]).tail.tail.tail.tail _ _⟩)
 obtain ⟨hr, rfl, rfl, hps⟩ := hcs.resolve_left (fun h => by have := h.2.1; omega)
 have hpo : p'.Ok [pgO p'] := pgParts_ok hps .here
 rw [hr] at hget
 simp only at hget
 refine z3 ?_
 refine lA (l := p'.cells) many_api_Page hw ?_
 refine z1 ?_
 refine x_call rfl rfl trivial cal_node_Search rfl (ct_node_Search (p := p') hw (pgParts_ok hps pK) (kk.of sF)) rfl (fun w v55 hv => ?_)
 obtain ⟨rfl, hw⟩ := hv
 refine z10 ?_
 refine x_not rfl rfl trivial rfl ?_
 refine xl_nil ?_
 refine x_cond rfl (fun h6 => ?_) (fun h6 => ?_)
 ·
  refine z7 ?_
  exact end3 rfl rfl rfl rfl rfl (by
 have h7 : (searchK key p'.pg.items 0).2 = false := by simpa using h6
 rw [if_pos h7] at hget
 rw [hget]
 exact ⟨_, rfl, row_nil (hw.b [blk b11 _ _, pgO p', row 3 _ _ _ _, blk b4 _ _]).tail.tail.tail.tail _ _⟩)
 have h7 : (searchK key p'.pg.items 0).2 = true := by simpa using h6
 have hsl := searchK_lt key p'.pg.items 0 h7
 have hil : p'.pg.items.length = p'.l.length := by simp [PgV.pg]
 obtain ⟨x, hx⟩ : ∃ x, p'.l[(searchK key p'.pg.items 0).1]? = some x := ⟨_, List.getElem?_eq_getElem (by omega)⟩
 have hxr : (p'.l.map ItV.cells)[(searchK key p'.pg.items 0).1]? = some x.cells := by rw [List.getElem?_map, hx]; rfl
 have hxi : p'.pg.items[(searchK key p'.pg.items 0).1]? = some x.it := by show (p'.l.map ItV.it)[_]? = _; rw [List.getElem?_map, hx]; rfl
 rw [if_neg (by rw [h7]; decide), hxi] at hget
 simp only at hget
 have hln := hpo.its.len
 obtain ⟨ia, ic, hs⟩ : ∃ ia ic, p'.s = .slice ia p'.l.length ic := by
  obtain ⟨a, c, h, _⟩ := (hpo.its.sl.at (hw.pick (A := pgO p') pK).head).form
  rw [List.length_map] at h
  exact ⟨a, c, h⟩
 have hsl2 : SlT 4 (.slice ia p'.l.length ic) (p'.l.map ItV.cells) w := by rw [← hs]; exact hpo.its.sl.at (hw.pick (A := pgO p') pK).head
 obtain ⟨ib, io, hia⟩ := hsl2.nn (by rw [List.length_map]; omega)
 have hxo : x.Ok [pgO p'] := hpo.its.it x (List.mem_of_getElem? hx)
 refine z5 ?_
 refine x_ld rfl rfl trivial rfl (Loads.blk1 (v := .slice (some ⟨ib, io, none⟩) p'.l.length ic) one_sl_api_Item hw pK (by rw [← hia, ← hs]; rfl)) ?_
 refine z1 ?_
 refine x_idx rfl rfl trivial U_sl_api_Item sz_api_Item rfl rfl ⟨by omega, by omega⟩ ?_
 refine x_ld rfl rfl trivial rfl (Loads.many (cs := x.cells) many_api_Item rfl (by
 have hsl : SlT 4 (.slice (some ⟨ib, io, none⟩) p'.l.length ic) (p'.l.map ItV.cells) w := by rw [← hia, ← hs]; exact hpo.its.sl.at (hw.pick (A := pgO p') pK).head
 rw [Int.toNat_natCast]; exact hsl.at hxr)) ?_
 refine x_call rfl rfl trivial cal_blob_Load rfl (ct_blob_Load (x := x) (hw.b [vaA vq V, pgO p']) hok ⟨(hxo.k.head _), (hxo.v.head _), hxo.sk, hxo.sv⟩) rfl (fun w v67 hv => ?_)
 obtain ⟨lv, rfl, hw⟩ := hv
 refine z17 ?_
 exact end3 rfl rfl rfl rfl rfl (by
 rw [hget]
 exact ⟨_, rfl, (hw.b [blk b11 _ _, pgO p', row 3 _ _ _ _, blk b4 _ _]).tail.tail.tail.tail⟩)
end
def bodyEndD (P : Program) (n : Nat) (fn : Func) (R : Value → World → Prop) : Cont := fun e w =>
 marks e = [] ∧ ∀ a, Agree n e a → ∃ v, (results fn a.tmps).run P w = .ok v w ∧ R v w
theorem defd_of_x {P : Program} {f : FuncId} {fn : Func} {c : Code} {args : List Value} {w : World} {R : Value → World → Prop} {n : Nat}
  (hf : P.funcs[f]? = some fn) (hb : fn.body = some c) (hn : fn.ntmps = n) (hle : Nat.ble args.length n = true) (hs : Nat.ble n 1000000 = true)
  (h : X P n none c (bodyEndD P n fn R) [] (bodyEndD P n fn R) (argEnv 0 args) w) : Defd P f args.toArray w R := by
 refine CallsDIn.mono (callsDIn_of_wp (R := Ret R) (F := Fw none) hf hb trivial ?_) fun e u' w' ⟨h1, h2⟩ => ⟨h1, h2⟩
 refine wpIn_mono (h _ (by rw [hn]; exact agree_args hle hs)) fun ex a w hq => ?_
 cases ex <;> simp only [outAt, extOf, bodyEndD] at hq <;> simp only [bodyPost]
 case normal =>
  obtain ⟨e, ha, hm, h1⟩ := hq
  obtain ⟨v, hv, hR⟩ := h1 a ha
  exact ⟨by rw [ha.defers, hm]; rfl, v, hv, v, rfl, hR⟩
 case ret =>
  obtain ⟨e, ha, hm, h1⟩ := hq
  obtain ⟨v, hv, hR⟩ := h1 a ha
  exact ⟨by rw [ha.defers, hm]; rfl, v, hv, v, rfl, hR⟩
 case exit => obtain ⟨K, hk, _⟩ := hq; cases hk
section
variable {P : Program} {n : Nat} {fn : Func} {R : Value → World → Prop} {e : Env} {w : World}
theorem endD0 (hr : fn.results = #[]) (hm : marks e = []) (h : R (.tuple #[]) w) : bodyEndD P n fn R e w := ⟨hm, fun a _ => ⟨.tuple #[], by simp [results, hr], h⟩⟩
end
def itZ : It := ⟨[], [], 0, 0⟩
def pieceB (value : Bys) (k : Nat) : Bys := (value.drop (k * 480)).take 480
def storeG (value : Bys) : Nat → Va → Int → Int × Int × Va
 | 0, V, child => (0, child, V)
 | k + 1, V, child => if (V.make ⟨3, 0, [], pieceB value k, child⟩).2.1 ≠ 0 then ((V.make ⟨3, 0, [], pieceB value k, child⟩).2.1, 0, V) else storeG value k (V.make ⟨3, 0, [], pieceB value k, child⟩).2.2 (V.make ⟨3, 0, [], pieceB value k, child⟩).1
def storeP (V : Va) (key value : Bys) : Int × It × Va :=
 if ¬ (1 ≤ key.length ∧ key.length ≤ 24) then (7, itZ, V) else if 3840 < value.length then (8, itZ, V) else
 if value.length ≤ 32 then (0, ⟨key, value, 0, value.length⟩, V) else
 if (storeG value ((value.length - 1) / 480 + 1) V 0).1 ≠ 0 then ((storeG value ((value.length - 1) / 480 + 1) V 0).1, itZ, V) else
 (0, ⟨key, [], (storeG value ((value.length - 1) / 480 + 1) V 0).2.1, value.length⟩, (storeG value ((value.length - 1) / 480 + 1) V 0).2.2)
theorem make_pop {V : Va} {p : Pg} (hok : V.Ok) (h : (V.make p).2.1 = 0) : (V.make p).2.2.pop = V ∧ (V.make p).2.2.va.length = V.va.length + 1 ∧ (V.make p).2.2.vf = V.vf := by
 unfold Va.make at h ⊢
 by_cases hc : checkP p = 0
 ·rw [if_neg (fun h => h hc)] at h ⊢
  cases hl : V.po.low with
  | none => rw [hl] at h; cases h
  | some n =>
   have hg := (mk1_wk (p := p) hok hl).g
   dsimp only
   refine ⟨Va.done_pop hg, ?_, hg.vf⟩
   show ((V.mk1 p n).v.va ++ [_]).length = _
   rw [List.length_append, hg.va]; rfl
 rw [if_pos hc] at h; exact absurd h hc
theorem make_err {V : Va} {p : Pg} (h : (V.make p).2.1 ≠ 0) : (V.make p).2.2 = V := by
 unfold Va.make at h ⊢
 by_cases hc : checkP p = 0
 ·rw [if_neg (fun h => h hc)] at h ⊢
  cases hl : V.po.low with
  | none => rfl
  | some n => rw [hl] at h; simp at h
 rw [if_pos hc]
theorem SlB.subK {L : List Assn} {b : Bys} {bb ob c : Nat} (h : Knows L (SlB (.slice (some ⟨bb, ob, none⟩) b.length c) b)) {lo hi : Nat} (h1 : lo < hi) (h2 : hi ≤ b.length) : Knows L (SlB (.slice (some ⟨bb, ob + lo, none⟩) (hi - lo) (c - lo)) ((b.drop lo).take (hi - lo))) := fun g w hw => by
 rcases h.at hw with ⟨_, h3⟩ | ⟨b', o', c', h3, h4, h5⟩
 ·subst h3; simp at h2; omega
 cases h3
 refine .inr ⟨bb, ob + lo, c - lo, by rw [List.length_take, List.length_drop]; congr 1; omega, by rw [List.length_take, List.length_drop]; omega, ?_⟩
 rw [bys_take, bys_drop]; exact (h5.drop lo).take _
section
variable {G : Gh} {L R : List Assn} {w : World}
theorem ct_blob_Store_1 {vq b7 b3 b8 b6 : Nat} {Y : Va} {er mk : Int} {ic : List Value} (hw : Sat G (vaA vq Y :: blk b7 [.int .i64 er] 41 :: blk b3 [.pointer (some ⟨vq, 0, none⟩)] 28 :: blk b8 [.int .i64 mk] 3 :: blk b6 ic 114 :: L) w) (hok : Y.Ok) (hsz : Y.sz ≤ 1000000000000000) (hmk : Y.vf ≤ mk ∧ mk ≤ Y.mark) (hic : ic.length = 4) :
  Defd Tryz.prog 83 #[.pointer (some ⟨b7, 0, none⟩), .pointer (some ⟨b3, 0, none⟩), .pointer (some ⟨b8, 0, none⟩), .pointer (some ⟨b6, 0, none⟩)] w (fun r w' =>
   (er ≠ 0 ∧ Sat G (vaA vq (Y.popN (Y.mark - mk).toNat) :: blk b7 [.int .i64 er] 41 :: blk b3 [.pointer (some ⟨vq, 0, none⟩)] 28 :: blk b8 [.int .i64 mk] 3 :: blk b6 [.slice none 0 0, .slice none 0 0, .int .i64 0, .int .i64 0] 114 :: L) w') ∨
   (er = 0 ∧ Sat G (vaA vq Y :: blk b7 [.int .i64 er] 41 :: blk b3 [.pointer (some ⟨vq, 0, none⟩)] 28 :: blk b8 [.int .i64 mk] 3 :: blk b6 ic 114 :: L) w')) := by
 refine defd_of_x (args := [_, _, _, _]) Tryz.func83 rfl Tryz.ntmps83 rfl rfl ?_
 refine z2 ?_
 refine lD one_api_Errno hw ?_
 refine z2 ?_
 refine x_if rfl (fun h1 => ?_) (fun h1 => ?_)
 ·
  refine z2 ?_
  refine lD one_p_vault_Vault hw ?_
  refine lD one_int hw ?_
  refine x_call rfl rfl trivial cal_vault_Vault_Undo rfl (ct_vault_Vault_Undo hw hok hsz) rfl (fun w v8 hv => ?_)
  obtain ⟨-, -, rfl, hw⟩ := hv.resolve_left (fun h => h.1 hmk)
  refine z2 ?_
  refine x_build (v := .agg #[.slice none 0 0, .slice none 0 0, .int .i64 0, .int .i64 0]) rfl rfl trivial rfl (fun w => by kernel_rfl) ?_
  refine x_stN (cs := [.slice none 0 0, .slice none 0 0, .int .i64 0, .int .i64 0]) (l' := [.slice none 0 0, .slice none 0 0, .int .i64 0, .int .i64 0]) rfl trivial rfl rfl many_api_Item rfl (by intro u hu; simp at hu; rcases hu with rfl | rfl | rfl | rfl <;> rfl) hw pK (by simp [hic]) (by rw [show ic.drop (0 + 4) = [] from List.drop_eq_nil_of_le (by simp [hic])]; rfl) rfl (fun w hw => ?_)
  refine xl_nil ?_
  exact endD0 rfl rfl (.inl ⟨h1, hw.b [vaA vq _, blk b7 _ _, blk b3 _ _, blk b8 _ _]⟩)
 refine x_skip ?_
 exact endD0 rfl rfl (.inr ⟨Decidable.not_not.1 h1, hw⟩)
theorem ct_blob_Store {vq : Nat} {V : Va} {kv vv : Value} {key value : Bys} (hw : Sat G (vaA vq V :: L) w) (hok : V.Ok) (hsz : V.sz ≤ 999999999000) (kk : Knows L (SlB kv key)) (kl : Knows L (SlB vv value)) (hsk : Small key) (hsv : Small value) :
  Calls Tryz.prog 45 #[.pointer (some ⟨vq, 0, none⟩), kv, vv] w (Ret fun r w' => ∃ x' : ItV, r = .tuple #[.agg x'.cells.toArray, .int .i64 (storeP V key value).1] ∧ x'.it = (storeP V key value).2.1 ∧ Sat G (both (itParts x') :: vaA vq (storeP V key value).2.2 :: L) w') := by
 obtain ⟨ka, kc, rfl⟩ := (kk.at hw.tail).form
 obtain ⟨la, lc, rfl⟩ := (kl.at hw.tail).form
 unfold Small at hsv hsk
 have hzp : ∀ {w : World} {R : List Assn}, Sat G R w → Sat G (both (itParts ⟨itZ, .slice none 0 0, .slice none 0 0⟩) :: R) w := fun h => Sat.both_in (M := itParts _) (row_nil (row_nil h 5 1) 5 1)
 refine calls_of_x (args := [_, _, _]) Tryz.func45 rfl Tryz.ntmps45 rfl rfl ?_
 refine z2 ?_
 refine x_box rfl rfl trivial rfl rfl hw rfl (fun w b3 hw => ?_)
 refine x_alloc rfl rfl trivial z_api_Item hw rfl (fun w b6 hw => ?_)
 refine x_alloc rfl rfl trivial z_api_Errno hw rfl (fun w b7 hw => ?_)
 refine z9 ?_
 refine xl_and (l1 := [4, 5, 6, 7]) (l2 := [8]) rfl (d := 19) (¬ (1 ≤ key.length ∧ key.length ≤ 24)) rfl ?_ ?_
 ·
  refine xl_split (d := 15) rfl (fun h1 => ?_) (fun h1 => ?_)
  ·
   refine z5 ?_
   refine cQ ?_
   first | (symm; rw [decide_eq_true_eq]; omega) | (refine decide_eq_decide.2 ?_; omega)
  refine z5 ?_
  refine cQ ?_
  first | (symm; rw [decide_eq_true_eq]; omega) | (refine decide_eq_decide.2 ?_; omega)
 refine z2 ?_
 refine x_if rfl (fun h2 => ?_) (fun h2 => ?_)
 ·
  refine z2 ?_
  refine x_build (v := .agg #[.slice none 0 0, .slice none 0 0, .int .i64 0, .int .i64 0]) rfl rfl trivial rfl (fun w => by kernel_rfl) ?_
  refine x_stN (cs := [.slice none 0 0, .slice none 0 0, .int .i64 0, .int .i64 0]) (l' := [.slice none 0 0, .slice none 0 0, .int .i64 0, .int .i64 0]) rfl trivial rfl rfl many_api_Item rfl (by intro u hu; simp at hu; rcases hu with rfl | rfl | rfl | rfl <;> rfl) hw pK (by simp) rfl rfl (fun w hw => ?_)
  refine x_st1 (l' := [.int .i64 7]) rfl trivial rfl rfl one_api_Errno rfl hw pK rfl rfl rfl (fun w hw => ?_)
  refine z2 ?_
  have e : storeP V key value = (7, itZ, V) := by unfold storeP; rw [if_pos h2]
  refine end2 rfl rfl ⟨_, rfl, (Loads.blkA (l := [.slice none 0 0, .slice none 0 0, .int .i64 0, .int .i64 0]) many_api_Item hw pK rfl)⟩ ⟨_, rfl, (Loads.blk1 one_api_Errno hw pK rfl)⟩ ⟨⟨itZ, .slice none 0 0, .slice none 0 0⟩, by rw [e]; rfl, by rw [e], ?_⟩
  rw [e]; exact hzp (hw.b [blk b7 _ _, blk b6 _ _, blk b3 _ _]).tail.tail.tail
 refine z7 ?_
 refine x_if rfl (fun h3 => ?_) (fun h3 => ?_)
 ·
  refine z2 ?_
  refine x_build (v := .agg #[.slice none 0 0, .slice none 0 0, .int .i64 0, .int .i64 0]) rfl rfl trivial rfl (fun w => by kernel_rfl) ?_
  refine x_stN (cs := [.slice none 0 0, .slice none 0 0, .int .i64 0, .int .i64 0]) (l' := [.slice none 0 0, .slice none 0 0, .int .i64 0, .int .i64 0]) rfl trivial rfl rfl many_api_Item rfl (by intro u hu; simp at hu; rcases hu with rfl | rfl | rfl | rfl <;> rfl) hw pK (by simp) rfl rfl (fun w hw => ?_)
  refine x_st1 (l' := [.int .i64 8]) rfl trivial rfl rfl one_api_Errno rfl hw pK rfl rfl rfl (fun w hw => ?_)
  refine z2 ?_
  have e : storeP V key value = (8, itZ, V) := by unfold storeP; rw [if_neg h2, if_pos (by omega)]
  refine end2 rfl rfl ⟨_, rfl, (Loads.blkA (l := [.slice none 0 0, .slice none 0 0, .int .i64 0, .int .i64 0]) many_api_Item hw pK rfl)⟩ ⟨_, rfl, (Loads.blk1 one_api_Errno hw pK rfl)⟩ ⟨⟨itZ, .slice none 0 0, .slice none 0 0⟩, by rw [e]; rfl, by rw [e], ?_⟩
  rw [e]; exact hzp (hw.b [blk b7 _ _, blk b6 _ _, blk b3 _ _]).tail.tail.tail
 refine z4 ?_
 refine x_call rfl rfl trivial cal_bytes_Clone rfl (ct_bytes_Clone hw (kk.of sF) hsk) rfl (fun w v27 hv => ?_)
 have hw : Sat G (row 5 1 v27 key.length (bys key) :: _) _ := hv
 obtain ⟨a27, c27, rfl⟩ := row_form hw
 refine z2 ?_
 refine x_build (v := .agg #[.slice a27 key.length c27, .slice none 0 0, .int .i64 0, .int .i64 value.length]) rfl rfl trivial rfl (fun w => by kernel_rfl) ?_
 refine x_stN (cs := [.slice a27 key.length c27, .slice none 0 0, .int .i64 0, .int .i64 value.length]) (l' := [.slice a27 key.length c27, .slice none 0 0, .int .i64 0, .int .i64 value.length]) rfl trivial rfl rfl many_api_Item rfl (by intro u hu; simp at hu; rcases hu with rfl | rfl | rfl | rfl <;> rfl) hw pK (by simp) rfl rfl (fun w hw => ?_)
 refine z8 ?_
 refine x_if rfl (fun h4 => ?_) (fun h4 => ?_)
 ·
  refine z3 ?_
  refine x_call rfl rfl trivial cal_bytes_Clone rfl (ct_bytes_Clone hw (kl.of sF) hsv) rfl (fun w v35 hv => ?_)
  have hw : Sat G (row 5 1 v35 value.length (bys value) :: _) _ := hv
  obtain ⟨a35, c35, rfl⟩ := row_form hw
  refine z1 ?_
  refine x_st1 (l' := [_, _, _, _]) rfl trivial rfl rfl one_sl_uint8 rfl hw pK rfl rfl rfl (fun w hw => ?_)
  refine z3 ?_
  refine lA (l := [.slice a27 key.length c27, .slice a35 value.length c35, .int .i64 0, .int .i64 value.length]) many_api_Item hw ?_
  refine x_stN (cs := [.slice a27 key.length c27, .slice a35 value.length c35, .int .i64 0, .int .i64 value.length]) (l' := [.slice a27 key.length c27, .slice a35 value.length c35, .int .i64 0, .int .i64 value.length]) rfl trivial rfl rfl many_api_Item rfl (by intro u hu; simp at hu; rcases hu with rfl | rfl | rfl | rfl <;> rfl) hw pK (by simp) rfl rfl (fun w hw => ?_)
  refine x_st1 (l' := [.int .i64 0]) rfl trivial rfl rfl one_api_Errno rfl hw pK rfl rfl rfl (fun w hw => ?_)
  refine z2 ?_
  have e : storeP V key value = (0, ⟨key, value, 0, value.length⟩, V) := by unfold storeP; rw [if_neg h2, if_neg (by omega), if_pos (by omega)]
  refine end2 rfl rfl ⟨_, rfl, (Loads.blkA (l := [.slice a27 key.length c27, .slice a35 value.length c35, .int .i64 0, .int .i64 value.length]) many_api_Item hw pK rfl)⟩ ⟨_, rfl, (Loads.blk1 one_api_Errno hw pK rfl)⟩ ⟨⟨⟨key, value, 0, value.length⟩, .slice a27 key.length c27, .slice a35 value.length c35⟩, by rw [e]; rfl, by rw [e], ?_⟩
  rw [e]
  have hz := (hw.b [blk b7 _ _, blk b6 _ _, blk b3 _ _, row 5 1 (.slice a27 _ _) _ _, row 5 1 (.slice a35 _ _) _ _]).tail.tail.tail
  exact Sat.both_in (M := itParts _) hz
 have hst : storeP V key value = if (storeG value ((value.length - 1) / 480 + 1) V 0).1 ≠ 0 then ((storeG value ((value.length - 1) / 480 + 1) V 0).1, itZ, V) else (0, ⟨key, [], (storeG value ((value.length - 1) / 480 + 1) V 0).2.1, value.length⟩, (storeG value ((value.length - 1) / 480 + 1) V 0).2.2) := by unfold storeP; rw [if_neg h2, if_neg (by omega), if_neg (by omega)]
 have hvf := hok.vf
 have hpf := hok.pf
 refine z3 ?_
 refine lD one_p_vault_Vault hw ?_
 refine x_call rfl rfl trivial cal_vault_Vault_Mark rfl (ct_vault_Vault_Mark (hw.b [vaA vq V]) ⟨hvf, by unfold Va.sz at hsz; omega⟩) rfl (fun w v39 hv => ?_)
 obtain ⟨rfl, hw⟩ := hv
 refine x_alloc rfl rfl trivial z_int hw rfl (fun w b8 hw => ?_)
 refine x_st1 (l' := [.int .i64 V.mark]) rfl trivial rfl rfl one_int rfl hw pK rfl rfl rfl (fun w hw => ?_)
 refine z2 ?_
 refine x_defer (fs := 0) (fn := .func 83) (first := #[]) (captured := #[.pointer (some ⟨b7, 0, none⟩), .pointer (some ⟨b3, 0, none⟩), .pointer (some ⟨b8, 0, none⟩), .pointer (some ⟨b6, 0, none⟩)]) (hm := rfl) rfl ?_
 refine x_mkf (v1 := #[]) (v2 := #[.pointer (some ⟨b7, 0, none⟩), .pointer (some ⟨b3, 0, none⟩), .pointer (some ⟨b8, 0, none⟩), .pointer (some ⟨b6, 0, none⟩)]) rfl rfl trivial (by intro z hz; simp at hz; rcases hz with rfl | rfl | rfl | rfl <;> exact ⟨_, rfl⟩) (by simp) (by simp only [List.map_toArray, List.map_cons, List.map_nil]; rfl) ?_
 refine xl_nil ?_
 refine ⟨rfl, ?_⟩
 refine z8 ?_
 have hsb := (kl.of sF).at hw
 obtain ⟨vb, vo, vc, hva, hcap⟩ := hsb.arm (by omega)
 cases hva
 have htot : (value.length - 1) / 480 + 1 ≤ 8 := by omega
 obtain ⟨tot, htt⟩ : ∃ tot, tot = (value.length - 1) / 480 + 1 := ⟨_, rfl⟩
 rw [← htt] at hst htot
 have hmin : ((value.length : Nat) : Int) = ((min value.length (tot * 480) : Nat) : Int) := by omega
 rw [hmin]
 have hz := hw.b [blk b8 _ _, row 5 1 _ _ _, blk b7 _ _, blk b6 _ _, blk b3 _ _, vaA vq V]
 clear hw
 have hw := hz
 refine x_loop (fun m e w => ∃ (k j : Nat) (Y : Va) (child : Int), m = k + 1 ∧ e = [(1000000000, .func (.func 83) #[] #[.pointer (some ⟨b7, 0, none⟩), .pointer (some ⟨b3, 0, none⟩), .pointer (some ⟨b8, 0, none⟩), .pointer (some ⟨b6, 0, none⟩)]), (2, .slice (some ⟨vb, vo, none⟩) value.length lc), (3, .pointer (some ⟨b3, 0, none⟩)), (6, .pointer (some ⟨b6, 0, none⟩)), (7, .pointer (some ⟨b7, 0, none⟩)), (8, .pointer (some ⟨b8, 0, none⟩)), (9, .int .i64 ((min value.length (k * 480) : Nat) : Int))] ∧ (Y.Ok ∧ Y.popN j = V ∧ Y.va.length = V.va.length + j ∧ Y.vf = V.vf ∧ Y.sz ≤ V.sz + 2 * j ∧ j + k = tot ∧ storeG value tot V 0 = storeG value k Y child) ∧ Sat G (blk b8 [.int .i64 V.mark] 3 :: row 5 1 (.slice a27 key.length c27) key.length (bys key) :: blk b7 [.int .i64 0] 41 :: blk b6 [.slice a27 key.length c27, .slice none 0 0, .int .i64 child, .int .i64 value.length] 114 :: blk b3 [.pointer (some ⟨vq, 0, none⟩)] 28 :: vaA vq Y :: L) w)
  (m := tot + 1) (e₀ := [(1000000000, .func (.func 83) #[] #[.pointer (some ⟨b7, 0, none⟩), .pointer (some ⟨b3, 0, none⟩), .pointer (some ⟨b8, 0, none⟩), .pointer (some ⟨b6, 0, none⟩)]), (2, .slice (some ⟨vb, vo, none⟩) value.length lc), (3, .pointer (some ⟨b3, 0, none⟩)), (6, .pointer (some ⟨b6, 0, none⟩)), (7, .pointer (some ⟨b7, 0, none⟩)), (8, .pointer (some ⟨b8, 0, none⟩)), (9, .int .i64 ((min value.length (tot * 480) : Nat) : Int))]) sB
  ⟨tot, 0, V, 0, rfl, rfl, ⟨hok, rfl, rfl, rfl, by omega, by omega, rfl⟩, hw⟩ ?_
 rintro m e w ⟨k, j, Y, child, rfl, rfl, ⟨hyok, hyp, hyl, hyf, hys, hjk, hsg⟩, hw⟩
 have hym : Y.mark = V.mark + j := by unfold Va.mark; omega
 refine z6 ?_
 refine x_if rfl (fun h5 => ?_) (fun h5 => ?_)
 ·
  obtain ⟨k, rfl⟩ : ∃ g, k = g + 1 := ⟨k - 1, by omega⟩
  have hklo : k * 480 < value.length := by omega
  refine z6 ?_
  refine x_quoi rfl rfl trivial rfl rfl (by omega) (by omega) ?_
  refine x_muli rfl rfl trivial rfl rfl (by omega) ?_
  have hbg : (((min value.length ((k + 1) * 480) : Nat) : Int) - 1) / 480 * 480 = ((k * 480 : Nat) : Int) := by omega
  rw [hbg]
  refine z3 ?_
  refine x_draw [0, 1, 2, 3, 4, 5, 6, 7, 8, 9, 10, 11, 12, 13, 14] mixed (by kernel_rfl) ?_
  replace hw := hw.drawn (w.drawn + 1)
  refine lD one_p_vault_Vault hw ?_
  refine z3 ?_
  refine x_cut rfl rfl trivial U_sl_uint8 sz_uint8 rfl rfl rfl ⟨by omega, by omega, by omega⟩ (by omega) ?_
  have hpc : (value.drop (k * 480)).take (min value.length ((k + 1) * 480) - k * 480) = pieceB value k := by
   unfold pieceB
   rw [List.take_eq_take_iff, List.length_drop]; omega
  have hsub : Knows L (SlB (.slice (some ⟨vb, vo + k * 480, none⟩) (min value.length ((k + 1) * 480) - k * 480) (lc - k * 480)) (pieceB value k)) := by
   rw [← hpc]; exact SlB.subK kl (by omega) (by omega)
  have hpl : (pieceB value k).length = min value.length ((k + 1) * 480) - k * 480 := by rw [← hpc, List.length_take, List.length_drop]; omega
  obtain ⟨pg, hpg⟩ : ∃ pg : PgV, pg = ⟨3, 0, [], .slice none 0 0, .slice (some ⟨vb, vo + k * 480, none⟩) (min value.length ((k + 1) * 480) - k * 480) (lc - k * 480), pieceB value k, child⟩ := ⟨_, rfl⟩
  have hpo : pg.Ok L := by
   rw [hpg]
   exact ⟨⟨fun g w _ => .inl ⟨none, rfl, (fun x h => by cases h), rfl⟩, (fun x hx => by cases hx), by simp⟩, hsub, by unfold Small; simp only; omega⟩
  have hpp : pg.pg = ⟨3, 0, [], pieceB value k, child⟩ := by rw [hpg]; rfl
  refine z1 ?_
  refine lD (v := .int .i64 child) one_int hw ?_
  refine x_build (v := .agg pg.cells.toArray) rfl rfl trivial rfl (fun w => by rw [hpg]; simp only [Int.toNat_natCast, Nat.mul_one]; kernel_rfl) ?_
  refine x_call rfl rfl trivial cal_vault_Vault_Make rfl (ct_vault_Vault_Make (p := pg) (hw.b [vaA vq Y]) (hpo.of sF) hyok (by omega)) (by kernel_rfl) (fun w v58 hv => ?_)
  rw [hpp] at hv
  obtain ⟨mk, hmk⟩ : ∃ mk, mk = Y.make ⟨3, 0, [], pieceB value k, child⟩ := ⟨_, rfl⟩
  rw [← hmk] at hv
  rw [storeG, ← hmk] at hsg
  have hmo : mk.2.2.Ok := by rw [hmk]; exact Va.make_ok hyok
  have hms : mk.2.2.sz ≤ Y.sz + 2 := by rw [hmk]; exact Va.make_sz
  obtain ⟨rfl, hw⟩ := hv
  refine z4 ?_
  refine x_st1 (l' := [_, _, _, _]) rfl trivial rfl rfl one_int rfl hw pK rfl rfl (by kernel_rfl) (fun w hw => ?_)
  refine x_st1 (l' := [.int .i64 mk.2.1]) rfl trivial rfl rfl one_api_Errno rfl hw pK rfl rfl (by kernel_rfl) (fun w hw => ?_)
  refine z4 ?_
  refine lD (v := .int .i64 mk.2.1) one_api_Errno hw ?_
  refine z2 ?_
  refine x_if rfl (fun h6 => ?_) (fun h6 => ?_)
  ·
   rw [if_pos h6] at hsg
   have hme : mk.2.2 = Y := by rw [hmk] at h6 ⊢; exact make_err h6
   rw [hme] at hw
   refine x_seq ?_
   refine x_draw [0, 1, 2, 3] mixed (by kernel_rfl) ?_
   replace hw := hw.drawn (w.drawn + 1)
   refine lA (l := [.slice a27 key.length c27, .slice none 0 0, .int .i64 mk.1, .int .i64 value.length]) many_api_Item hw ?_
   refine lD (v := .int .i64 mk.2.1) one_api_Errno hw ?_
   refine x_stNP (cs := [.slice a27 key.length c27, .slice none 0 0, .int .i64 mk.1, .int .i64 value.length]) (l' := [.slice a27 key.length c27, .slice none 0 0, .int .i64 mk.1, .int .i64 value.length]) rfl trivial rfl rfl many_api_Item rfl (by intro u hu; simp at hu; rcases hu with rfl | rfl | rfl | rfl <;> rfl) hw pK (by simp) rfl (fun w hw q' hq => ?_) (fun w hw => ?_)
   ·
    have hq := pend_mem (l := [1]) (by kernel_rfl) hq
    simp only [List.mem_cons, List.not_mem_nil, or_false] at hq
    subst hq
    exact chk_ld rfl rfl rfl (Loads.blk1 (v := .int .i64 mk.2.1) one_api_Errno hw pK rfl)
   refine x_st1 (l' := [.int .i64 mk.2.1]) rfl trivial rfl rfl one_api_Errno rfl hw pK rfl rfl (by kernel_rfl) (fun w hw => ?_)
   refine z2 ?_
   have hz := hw.b [vaA vq Y, blk b7 _ _, blk b3 _ _, blk b8 _ _, blk b6 _ _]
   refine bodyEnd_leave rfl ?_
   refine leave_call cal_blob_Store_1 (ct_blob_Store_1 hz hyok (by omega) (by unfold Va.mark at *; omega) rfl) (fun v w hv => ?_)
   obtain ⟨-, hw⟩ := hv.resolve_right (fun h => h6 h.1)
   rw [show (Y.mark - V.mark).toNat = j by omega, hyp] at hw
   have e : storeP V key value = (mk.2.1, itZ, V) := by rw [hst, hsg]; exact if_pos h6
   refine leave2 rfl ⟨_, rfl, (Loads.blkA (l := [.slice none 0 0, .slice none 0 0, .int .i64 0, .int .i64 0]) many_api_Item hw pK rfl)⟩ ⟨_, rfl, (Loads.blk1 (v := .int .i64 mk.2.1) one_api_Errno hw pK rfl)⟩ ⟨⟨itZ, .slice none 0 0, .slice none 0 0⟩, by rw [e]; rfl, by rw [e], ?_⟩
   rw [e]; exact hzp (hw.b [blk b7 _ _, blk b6 _ _, blk b3 _ _, blk b8 _ _, row 5 1 (.slice a27 _ _) _ _]).tail.tail.tail.tail.tail
  have h6 : mk.2.1 = 0 := Decidable.not_not.1 h6
  rw [if_neg (by omega)] at hsg
  rw [h6] at hw
  obtain ⟨hm1, hm2, hm3⟩ := make_pop (V := Y) (p := ⟨3, 0, [], pieceB value k, child⟩) hyok (by rw [← hmk]; exact h6)
  rw [← hmk] at hm1 hm2 hm3
  refine z5 ?_
  have hmn : ((k * 480 : Nat) : Int) = ((min value.length (k * 480) : Nat) : Int) := by omega
  rw [hmn]
  have hz := hw.b [blk b8 _ _, row 5 1 (.slice a27 _ _) _ _, blk b7 _ _, blk b6 _ _, blk b3 _ _, vaA vq _]
  exact ⟨k + 1, by omega, [(1000000000, _), (2, _), (3, _), (6, _), (7, _), (8, _), (9, .int .i64 ((min value.length (k * 480) : Nat) : Int))], sB, k, j + 1, mk.2.2, mk.1, rfl, rfl, ⟨hmo, by show mk.2.2.pop.popN j = V; rw [hm1]; exact hyp, by omega, by rw [hm3]; exact hyf, by omega, by omega, hsg⟩, hz⟩
 have hk0 : k = 0 := by omega
 subst hk0
 rw [storeG] at hsg
 refine z3 ?_
 refine lA (l := [.slice a27 key.length c27, .slice none 0 0, .int .i64 child, .int .i64 value.length]) many_api_Item hw ?_
 refine x_stN (cs := [.slice a27 key.length c27, .slice none 0 0, .int .i64 child, .int .i64 value.length]) (l' := [.slice a27 key.length c27, .slice none 0 0, .int .i64 child, .int .i64 value.length]) rfl trivial rfl rfl many_api_Item rfl (by intro u hu; simp at hu; rcases hu with rfl | rfl | rfl | rfl <;> rfl) hw pK (by simp) rfl rfl (fun w hw => ?_)
 refine x_st1 (l' := [.int .i64 0]) rfl trivial rfl rfl one_api_Errno rfl hw pK rfl rfl rfl (fun w hw => ?_)
 refine z2 ?_
 have hz := hw.b [vaA vq Y, blk b7 _ _, blk b3 _ _, blk b8 _ _, blk b6 _ _]
 refine bodyEnd_leave rfl ?_
 refine leave_call cal_blob_Store_1 (ct_blob_Store_1 hz hyok (by omega) (by unfold Va.mark at *; omega) rfl) (fun v w hv => ?_)
 obtain ⟨-, hw⟩ := hv.resolve_left (fun h => h.1 rfl)
 have e : storeP V key value = (0, ⟨key, [], child, value.length⟩, Y) := by rw [hst, hsg]; rfl
 refine leave2 rfl ⟨_, rfl, (Loads.blkA (l := [.slice a27 key.length c27, .slice none 0 0, .int .i64 child, .int .i64 value.length]) many_api_Item hw pK rfl)⟩ ⟨_, rfl, (Loads.blk1 (v := .int .i64 0) one_api_Errno hw pK rfl)⟩ ⟨⟨⟨key, [], child, value.length⟩, .slice a27 key.length c27, .slice none 0 0⟩, by rw [e]; rfl, by rw [e], ?_⟩
 rw [e]
 have hz := (hw.b [blk b7 _ _, blk b6 _ _, blk b3 _ _, blk b8 _ _, row 5 1 (.slice a27 _ _) _ _]).tail.tail.tail.tail
 have hz := (row_nil hz 5 1).b [row 5 1 (.slice a27 _ _) _ _, row 5 1 (.slice none 0 0) 0 []]
 exact Sat.both_in (M := itParts _) hz
end
structure Lt (V : Va) (k : Nat) (Y : Va) : Prop where
 ok : Y.Ok
 sz : Y.sz ≤ V.sz + k
 vf : Y.vf = V.vf
 pop : ∃ j, Y.va.length = V.va.length + j ∧ Y.popN j = V
theorem Lt.refl {V : Va} (h : V.Ok) : Lt V 0 V := ⟨h, by simp, rfl, 0, rfl, rfl⟩
theorem Lt.mono {V Y : Va} {k j : Nat} (h : Lt V k Y) (hj : k ≤ j) : Lt V j Y := ⟨h.ok, by have := h.sz; omega, h.vf, h.pop⟩
theorem popN_add : ∀ (i j : Nat) (V : Va), V.popN (i + j) = (V.popN i).popN j
 | 0, j, V => by simp [Va.popN]
 | i + 1, j, V => by
  rw [show i + 1 + j = (i + j) + 1 by omega]
  show V.pop.popN (i + j) = (V.pop.popN i).popN j
  exact popN_add i j V.pop
theorem Lt.trans {V Y Z : Va} {k j : Nat} (h : Lt V k Y) (h' : Lt Y j Z) : Lt V (k + j) Z := by
 obtain ⟨a, h1, h2⟩ := h.pop
 obtain ⟨b, h3, h4⟩ := h'.pop
 exact ⟨h'.ok, by have := h.sz; have := h'.sz; omega, h'.vf.trans h.vf, b + a, by omega, by rw [popN_add, h4, h2]⟩
theorem Lt.done {V : Va} {k : Nat} {x : Vw} (hok : V.Ok) (h : Wk V k x) (ht : Wt x) (hk : k ≤ 1000000000000) : Lt V (k + 1) (V.done x) :=
 ⟨h.done_ok hok ht hk, by have := h.sz; omega, h.g.vf, 1, by show (x.v.va ++ [_]).length = _; rw [List.length_append, h.g.va]; rfl, Va.done_pop h.g⟩
theorem Lt.undo {V Y : Va} {k : Nat} (h : Lt V k Y) : Y.popN (Y.mark - V.mark).toNat = V ∧ Y.vf ≤ V.mark ∧ V.mark ≤ Y.mark := by
 obtain ⟨j, h1, h2⟩ := h.pop
 have h3 := h.vf
 have : Y.mark = V.mark + j := by unfold Va.mark; omega
 refine ⟨by rw [show (Y.mark - V.mark).toNat = j by omega]; exact h2, by unfold Va.mark; omega, by omega⟩
theorem Lt.make {V : Va} (hok : V.Ok) (p : Pg) : Lt V 3 (V.make p).2.2 := by
 unfold Va.make
 by_cases hc : checkP p = 0
 ·rw [if_neg (fun h => h hc)]
  cases hl : V.po.low with
  | none => exact (Lt.refl hok).mono (by omega)
  | some n => exact Lt.done hok (mk1_wk hok hl) (mk1_wt hok hl hc) (by decide)
 rw [if_pos hc]; exact (Lt.refl hok).mono (by omega)
theorem Lt.write {V : Va} (hok : V.Ok) (n : Int) (p : Pg) : Lt V 2 (V.write n p).2 := by
 unfold Va.write
 split
 ·exact (Lt.refl hok).mono (by omega)
 by_cases hc : checkP p = 0
 ·rw [if_neg (fun h => h hc)]
  exact Lt.done hok (wr1_wk hok) ((Wt.refl hok.toBase).putS n hc) (by decide)
 rw [if_pos hc]; exact (Lt.refl hok).mono (by omega)
theorem Lt.shadow {V : Va} (hok : V.Ok) (n : Int) : Lt V 13 (V.shadow n).2.2 := by
 unfold Va.shadow
 split
 ·exact (Lt.refl hok).mono (by omega)
 rename_i h0
 split
 ·exact (Lt.refl hok).mono (by omega)
 cases hl : V.po.low with
 | none => exact (Lt.refl hok).mono (by omega)
 | some m =>
  simp only
  split
  ·exact (Lt.refl hok).mono (by omega)
  exact Lt.done hok (Va.shadow_wk hok hl) ((mk1_wt hok hl (pg_check hok.toBase h0)).leave (mk1_wk hok hl).ok n) (by decide)
def halfP (V : Va) (n : Int) : Va × Int × Bys × Int :=
 match V.rd n with
 | none => (V, 0, [], 15)
 | some p => if p.items.length < 8 then (V, 0, [], 0) else match splitP p with
  | none => (V, 0, [], 5)
  | some (l, r, sep) => if (V.make r).2.1 ≠ 0 then ((V.make r).2.2, 0, [], (V.make r).2.1) else (((V.make r).2.2.write n l).2, (V.make r).1, sep, ((V.make r).2.2.write n l).1)
def rootP (V : Va) (T : Tr) : Va × Tr × Int × Int :=
 if (V.shadow T.root).2.1 ≠ 0 then ((V.shadow T.root).2.2, T, 0, (V.shadow T.root).2.1) else
 let n := (V.shadow T.root).1
 let h := halfP (V.shadow T.root).2.2 n
 if h.2.2.2 ≠ 0 ∨ h.2.1 = 0 then (h.1, ⟨n, T.height, T.items⟩, n, h.2.2.2) else
 let m := h.1.make ⟨2, T.height, [⟨[], [], n, 0⟩, ⟨h.2.2.1, [], h.2.1, 0⟩], [], 0⟩
 (m.2.2, ⟨m.1, T.height + 1, T.items⟩, m.1, m.2.1)
def setChild (l : List It) (k : Nat) (c : Int) : List It := l.modify k (fun x => { x with child := c })
def downP (V : Va) (n : Int) (p : Pg) (key : Bys) : Va × Int × Int :=
 let at_ := routeK key p.items
 if p.items.length ≤ at_ then (V, 0, 5) else
 let s := V.shadow (childAt p.items at_)
 if s.2.1 ≠ 0 then (s.2.2, 0, s.2.1) else
 let p1 : Pg := { p with items := setChild p.items at_ s.1 }
 let h := halfP s.2.2 s.1
 if h.2.2.2 ≠ 0 then (h.1, 0, h.2.2.2) else
 if h.2.1 ≠ 0 ∧ ¬ (at_ + 1 ≤ p1.items.length ∧ p1.items.length < 8) then (h.1, 0, 5) else
 let p2 : Pg := if h.2.1 ≠ 0 then { p1 with items := p1.items.take (at_ + 1) ++ [⟨h.2.2.1, [], h.2.1, 0⟩] ++ p1.items.drop (at_ + 1) } else p1
 let w := h.1.write n p2
 (w.2, if w.1 ≠ 0 then 0 else childAt p2.items (routeK key p2.items), w.1)
def addP (new : It) (V : Va) (T : Tr) (n : Int) (p : Pg) : Va × Tr × Int :=
 let at_ := (searchK new.key p.items 0).1
 if ¬ (at_ ≤ p.items.length ∧ p.items.length < 8) then (V, T, 5) else
 let w := V.write n { p with items := p.items.take at_ ++ [new] ++ p.items.drop at_ }
 (w.2, ⟨T.root, T.height, T.items + 1⟩, w.1)
def putL (key : Bys) (leaf : Va → Tr → Int → Pg → Va × Tr × Int) : Nat → Va → Tr → Int → Option (Va × Tr × Int)
 | 0, _, _, _ => none
 | f + 1, V, T, n => match V.rd n with
  | none => some (V, T, 15)
  | some p => if ¬ p.kind = 2 then some (leaf V T n p) else
   if (downP V n p key).2.2 ≠ 0 then some ((downP V n p key).1, T, (downP V n p key).2.2) else putL key leaf f (downP V n p key).1 T (downP V n p key).2.1
def putP (new : It) (leaf : Va → Tr → Int → Pg → Va × Tr × Int) (f : Nat) (V : Va) (T : Tr) : Option (Va × Tr × Int) :=
 if T.root = 0 then some ((V.make ⟨1, 0, [new], [], 0⟩).2.2, ⟨(V.make ⟨1, 0, [new], [], 0⟩).1, 1, 1⟩, (V.make ⟨1, 0, [new], [], 0⟩).2.1) else
 if (rootP V T).2.2.2 ≠ 0 then some ((rootP V T).1, (rootP V T).2.1, (rootP V T).2.2.2) else putL new.key leaf f (rootP V T).1 (rootP V T).2.1 (rootP V T).2.2.1
theorem Lt.half {V : Va} (hok : V.Ok) (n : Int) : Lt V 5 (halfP V n).1 := by
 unfold halfP
 split
 ·exact (Lt.refl hok).mono (by omega)
 split
 ·exact (Lt.refl hok).mono (by omega)
 split
 ·exact (Lt.refl hok).mono (by omega)
 rename_i l r sep _
 have hm := Lt.make hok r
 split
 ·exact hm.mono (by omega)
 exact hm.trans (Lt.write hm.ok n l)
theorem Lt.root {V : Va} (hok : V.Ok) (T : Tr) : Lt V 21 (rootP V T).1 := by
 unfold rootP
 have hs := Lt.shadow hok T.root
 split
 ·exact hs.mono (by omega)
 have hh := hs.trans (Lt.half hs.ok (V.shadow T.root).1)
 simp only
 split
 ·exact hh.mono (by omega)
 exact hh.trans (Lt.make hh.ok _)
theorem Lt.down {V : Va} (hok : V.Ok) (n : Int) (p : Pg) (key : Bys) : Lt V 20 (downP V n p key).1 := by
 unfold downP
 simp only
 split
 ·exact (Lt.refl hok).mono (by omega)
 have hs := Lt.shadow hok (childAt p.items (routeK key p.items))
 split
 ·exact hs.mono (by omega)
 have hh := hs.trans (Lt.half hs.ok (V.shadow (childAt p.items (routeK key p.items))).1)
 split
 ·exact hh.mono (by omega)
 split
 ·exact hh.mono (by omega)
 exact hh.trans (Lt.write hh.ok n _)
theorem Lt.add {V : Va} (hok : V.Ok) (new : It) (T : Tr) (n : Int) (p : Pg) : Lt V 2 (addP new V T n p).1 := by
 unfold addP
 simp only
 split
 ·exact (Lt.refl hok).mono (by omega)
 exact Lt.write hok n _
theorem store_lt {V : Va} (hok : V.Ok) (key value : Bys) : Lt V 24 (storeP V key value).2.2 := by
 have hg : ∀ (k : Nat) (Y : Va) (child : Int), Y.Ok → Lt Y (3 * k) (storeG value k Y child).2.2 := by
  intro k
  induction k with
  | zero => intro Y child hy; exact Lt.refl hy
  | succ k ih =>
   intro Y child hy
   rw [storeG]
   split
   ·exact (Lt.refl hy).mono (by omega)
   have hm := Lt.make hy ⟨3, 0, [], pieceB value k, child⟩
   exact (hm.trans (ih _ _ hm.ok)).mono (by omega)
 unfold storeP
 split
 ·exact (Lt.refl hok).mono (by omega)
 split
 ·exact (Lt.refl hok).mono (by omega)
 split
 ·exact (Lt.refl hok).mono (by omega)
 split
 ·exact (Lt.refl hok).mono (by omega)
 exact (hg _ _ _ hok).mono (by omega)
def puC (vq : Nat) (T : Tr) (x : ItV) (was : Bool) : List Value := [.pointer (some ⟨vq, 0, none⟩), .int .i64 T.root, .int .i64 T.height, .int .i64 T.items, x.kv, x.vv, .int .i64 x.it.child, .int .i64 x.it.size, .bool was]
theorem PgV.Sm.form {p : PgV} (h : p.Sm) {G : Gh} {L R : List Assn} {w : World} (hw : Sat G L w) (hp : Pick (pgO p) L R) : ∃ ia ic, p.s = .slice ia p.l.length ic := by
 obtain ⟨a, c, h1, _⟩ := ((pgParts_ok h (L := [pgO p]) .here).its.sl.at (hw.pick hp).head).form
 rw [List.length_map] at h1
 exact ⟨a, c, h1⟩
theorem nilB {L : List Assn} : Knows L (SlB (.slice none 0 0) []) := fun _ _ _ => .inl ⟨⟨none, rfl⟩, rfl⟩
theorem slT_blkN {z b T : Nat} {rs : List (List Value)} (hr : ∀ r ∈ rs, r.length = z) : Knows [blk b rs.flatten T] (SlT z (.slice (some ⟨b, 0, none⟩) rs.length rs.length) rs) := fun g w hw =>
 .inr ⟨b, 0, rs.length, rfl, Nat.le_refl _, hr, by have := Rd.of_blk (o := 0) hw .here; simpa using this⟩
theorem items_keys {p : Pg} (h : checkP p = 0) : ∀ x ∈ p.items, x.key.length ≤ 24 := by
 have key : ∀ (l : List It) (i : Nat) (above : Bys), itsErr p.kind i above l = 0 → ∀ x ∈ l, x.key.length ≤ 24 := by
  intro l
  induction l with
  | nil => intro i above _ x hx; cases hx
  | cons y l ih =>
   intro i above he x hx
   simp only [itsErr, fst_zero_iff] at he
   rcases List.mem_cons.1 hx with rfl | hx
   ·have h1 := he.1
    unfold itErr at h1
    simp only [fst_zero_iff] at h1
    have h2 := h1.1
    unfold keyErr at h2
    split at h2
    ·have := (mst_zero (by decide)).1 h2; omega
    have := (mst_zero (by decide)).1 h2; omega
   exact ih _ _ he.2 x hx
 unfold checkP at h
 simp only [fst_zero_iff] at h
 exact key p.items 0 [] h.2.1
theorem keyAt_small {l : List It} (h : ∀ x ∈ l, x.key.length ≤ 24) (k : Nat) : Small (keyAt l k) := by
 unfold keyAt Small
 cases hx : l[k]? with
 | none => simp
 | some x => have := h x (List.mem_of_getElem? hx); simp; omega
theorem between_small {a b s : Bys} (h : betweenK a b = some s) (hb : Small b) : Small s := by
 unfold betweenK at h
 unfold Small at hb ⊢
 have := commonK_le a b
 split at h
 ·cases h
 split at h
 ·cases h
 split at h <;> (cases h; simp only [List.length_append, List.length_take, List.length_singleton]; omega)
theorem ItsOk.front {M : List Assn} {s : Value} {l : List ItV} (h : ItsOk M s l) (R : List Assn) : ItsOk (M ++ R) s l := by
 have k : ∀ {p : World → Prop}, Knows M p → Knows (M ++ R) p := fun k g w hw => k g w (by
  have h1 : Sat g (both M :: R) w := Sat.both_in hw
  have h2 := h1.head.both_out
  rwa [List.append_nil] at h2)
 exact ⟨k h.sl, fun x hx => ⟨k (h.it x hx).k, k (h.it x hx).v, (h.it x hx).sk, (h.it x hx).sv⟩, h.len⟩
theorem PgV.Ok.front {M : List Assn} {p : PgV} (h : p.Ok M) (R : List Assn) : p.Ok (M ++ R) :=
 ⟨h.its.front R, fun g w hw => h.data g w (by
  have h1 : Sat g (both M :: R) w := Sat.both_in hw
  have h2 := h1.head.both_out
  rwa [List.append_nil] at h2), h.sd⟩
theorem half_sep {V : Va} (hok : V.Ok) (n : Int) : Small (halfP V n).2.2.1 := by
 unfold halfP
 split
 ·unfold Small; simp
 split
 ·unfold Small; simp
 split
 ·unfold Small; simp
 rename_i p hr _ _ l r sep hsp
 split
 ·unfold Small; simp
 have hck := Va.rd_check hok hr
 have hk := items_keys hck
 unfold splitP at hsp
 split at hsp
 ·cases hsp
 unfold partedP at hsp
 split at hsp
 ·simp only [Option.some.injEq, Prod.mk.injEq] at hsp
  rw [← hsp.2.2]
  exact keyAt_small hk _
 split at hsp
 ·cases hsp
 rename_i s hb
 simp only [Option.some.injEq, Prod.mk.injEq] at hsp
 rw [← hsp.2.2]
 exact between_small hb (keyAt_small hk _)
section
variable {G : Gh} {L R : List Assn} {w : World}
theorem ct_put_putter_half {vq xq : Nat} {V : Va} {T : Tr} {x : ItV} {was : Bool} {n : Int} (hw : Sat G (vaA vq V :: blk xq (puC vq T x was) 116 :: L) w) (hok : V.Ok) (hsz : V.sz ≤ 999999999990) :
  Calls Tryz.prog 149 #[.pointer (some ⟨xq, 0, none⟩), .int .i64 n] w (Ret fun r w' => ∃ sv, r = .tuple #[.int .i64 (halfP V n).2.1, sv, .int .i64 (halfP V n).2.2.2] ∧ Sat G (row 5 1 sv (halfP V n).2.2.1.length (bys (halfP V n).2.2.1) :: vaA vq (halfP V n).1 :: blk xq (puC vq T x was) 116 :: L) w') := by
 refine calls_of_x (args := [_, _]) Tryz.func149 rfl Tryz.ntmps149 rfl rfl ?_
 refine z11 ?_
 refine lD (v := .pointer (some ⟨vq, 0, none⟩)) one_p_vault_Vault hw ?_
 refine z1 ?_
 refine x_call rfl rfl trivial cal_vault_Vault_Read rfl (ct_vaA_Read (n := n) hw hok) rfl (fun w v20 hv => ?_)
 obtain ⟨p', er, A, rfl, hone, hcs, hw⟩ := hv
 have hsf : ∃ ia ic, p'.s = .slice ia p'.l.length ic ∧ p'.l.length ≤ 1000000000000000 := by
  rcases hcs with ⟨_, _, rfl, _⟩ | ⟨_, _, rfl, hps⟩
  ·exact ⟨none, 0, rfl, by decide⟩
  obtain ⟨a, c, h⟩ := hps.form hw .here
  exact ⟨a, c, h, by have := hps.len; omega⟩
 obtain ⟨ia, ic, hs, hll⟩ := hsf
 have hpl : p'.pg.items.length = p'.l.length := by simp [PgV.pg]
 refine z3 ?_
 refine x_alloc rfl rfl trivial z_api_Page hw rfl (fun w b7 hw => ?_)
 refine x_stN (cs := p'.cells) (l' := p'.cells) rfl trivial rfl rfl many_api_Page rfl hone hw pK (by simp [PgV.cells]) rfl rfl (fun w hw => ?_)
 refine z8 ?_
 refine xl_and (l1 := [3, 4, 5, 6, 7]) (l2 := []) rfl (d := 30) (er ≠ 0 ∨ (p'.l.length : Int) < 8) rfl ?_ ?_
 ·
  refine xl_split (d := 25) rfl (fun h1 => ?_) (fun h1 => ?_)
  ·
   refine z6 ?_
   refine cQ ?_
   exact dC
  refine z1 ?_
  refine x_ld rfl rfl ⟨_, rfl, rfl⟩ rfl (Loads.blk1 (v := .slice ia p'.l.length ic) one_sl_api_Item hw pK (by rw [← hs]; rfl)) ?_
  refine x_len rfl rfl ⟨_, rfl, rfl⟩ (by kernel_rfl) U_sl_api_Item rfl ?_
  refine z3 ?_
  refine cQ ?_
  exact dC
 refine xl_nil ?_
 refine x_if rfl (fun h2 => ?_) (fun h2 => ?_)
 ·
  refine z8 ?_
  exact end3 rfl rfl rfl rfl rfl (by
 rcases hcs with ⟨hr, rfl, rfl, rfl⟩ | ⟨hr, rfl, rfl, hps⟩
 ·have e : halfP V n = (V, 0, [], 15) := by unfold halfP; rw [hr]
  rw [e]
  exact ⟨_, rfl, row_nil (hw.b [blk b7 _ _, both _]).tail.tail _ _⟩
 ·have e : halfP V n = (V, 0, [], 0) := by
   unfold halfP; rw [hr]; simp only; rw [if_pos (by omega)]
  rw [e]
  exact ⟨_, rfl, row_nil (hw.b [blk b7 _ _, pgO p']).tail.tail _ _⟩)
 obtain ⟨hr, rfl, rfl, hps⟩ := hcs.resolve_left (fun h => by have := h.2.1; omega)
 have hl8 : ¬ p'.pg.items.length < 8 := by omega
 refine z3 ?_
 refine lA (l := p'.cells) many_api_Page hw ?_
 refine x_call rfl rfl trivial cal_node_Split rfl (ct_node_Split (p := p') hw (pgParts_ok hps pK)) rfl (fun w v34 hv => ?_)
 have hv2 : ∃ (pl pr : PgV) (sv : Value) (bo : Bool) (s : Bys) (A : Assn), v34 = .tuple #[.agg pl.cells.toArray, .agg pr.cells.toArray, sv, .bool bo] ∧ Ones pl.cells ∧ Ones pr.cells ∧
   ((splitP p'.pg = none ∧ bo = false ∧ A = both []) ∨ (splitP p'.pg = some (pl.pg, pr.pg, s) ∧ bo = true ∧ pl.Sm ∧ pr.Sm ∧ A = both [pgO pl, pgO pr, row 5 1 sv s.length (bys s)])) ∧
   Sat G (A :: blk b7 p'.cells 75 :: pgO p' :: vaA vq V :: blk xq (puC vq T x was) 116 :: L) w := by
  rcases hv with ⟨h3, h4, h5⟩ | ⟨pl, pr, s, sv, h3, h4, h5, h6, h7⟩
  ·exact ⟨pgZ, pgZ, .slice none 0 0, false, [], both [], h4, pgZ_ones, pgZ_ones, .inl ⟨h3, rfl, rfl⟩, Sat.both_in (M := []) h5⟩
  exact ⟨pl, pr, sv, true, s, _, h4, ones_pg (pgParts_ok h5 pK) h7, ones_pg (pgParts_ok h6 pK) h7, .inr ⟨h3, rfl, h5, h6, rfl⟩, Sat.both_in (M := [pgO pl, pgO pr, row 5 1 sv s.length (bys s)]) h7⟩
 obtain ⟨pl, pr, sv, bo, s, A, rfl, ho1, ho2, hcs, hw⟩ := hv2
 refine z5 ?_
 refine x_alloc rfl rfl trivial z_api_Page hw rfl (fun w b9 hw => ?_)
 refine x_alloc rfl rfl trivial z_api_Page hw rfl (fun w b10 hw => ?_)
 refine x_stN (cs := pl.cells) (l' := pl.cells) rfl trivial rfl rfl many_api_Page rfl ho1 hw pK (by simp [PgV.cells]) rfl rfl (fun w hw => ?_)
 refine x_stN (cs := pr.cells) (l' := pr.cells) rfl trivial rfl rfl many_api_Page rfl ho2 hw pK (by simp [PgV.cells]) rfl rfl (fun w hw => ?_)
 refine z7 ?_
 refine x_not rfl rfl trivial rfl ?_
 refine xl_nil ?_
 refine x_cond rfl (fun h3 => ?_) (fun h3 => ?_)
 ·
  refine z7 ?_
  exact end3 rfl rfl rfl rfl rfl (by
 obtain ⟨hsp, rfl, rfl⟩ := hcs.resolve_right (fun h => by rw [h.2.1] at h3; simp at h3)
 have e : halfP V n = (V, 0, [], 5) := by unfold halfP; rw [hr]; simp only; rw [if_neg hl8, hsp]
 rw [e]
 exact ⟨_, rfl, row_nil (hw.b [blk b10 _ _, blk b9 _ _, both _, blk b7 _ _, pgO p']).tail.tail.tail.tail.tail _ _⟩)
 obtain ⟨hsp, rfl, hsl, hsr, rfl⟩ := hcs.resolve_left (fun h => by rw [h.2.1] at h3; simp at h3)
 have hz := (hw.b [both [pgO pl, pgO pr, row 5 1 sv s.length (bys s)]]).both_out
 simp only [List.cons_append, List.nil_append] at hz
 clear hw
 have hw := hz
 clear hz
 have e : halfP V n = if (V.make pr.pg).2.1 ≠ 0 then ((V.make pr.pg).2.2, 0, [], (V.make pr.pg).2.1) else (((V.make pr.pg).2.2.write n pl.pg).2, (V.make pr.pg).1, s, ((V.make pr.pg).2.2.write n pl.pg).1) := by unfold halfP; rw [hr]; simp only; rw [if_neg hl8, hsp]
 refine z2 ?_
 refine x_draw [0, 1, 2, 3, 4, 5, 6, 7, 8, 9, 10] mixed (by kernel_rfl) ?_
 replace hw := hw.drawn (w.drawn + 1)
 refine z3 ?_
 refine lD (v := .pointer (some ⟨vq, 0, none⟩)) one_p_vault_Vault hw ?_
 refine lA (l := pr.cells) many_api_Page hw ?_
 refine x_call rfl rfl trivial cal_vault_Vault_Make rfl (ct_vault_Vault_Make (p := pr) (hw.b [vaA vq V, pgO pl, pgO pr]) (pgParts_ok hsr pK) hok (by omega)) (by kernel_rfl) (fun w v47 hv => ?_)
 obtain ⟨rfl, hw⟩ := hv
 refine z12 ?_
 refine x_if rfl (fun h4 => ?_) (fun h4 => ?_)
 ·
  refine z8 ?_
  exact end3 rfl rfl rfl rfl rfl (by
 rw [if_pos h4] at e
 rw [e]
 exact ⟨_, rfl, row_nil (hw.b [pgO pl, pgO pr, row 5 1 sv _ _, blk b10 _ _, blk b9 _ _, blk b7 _ _, pgO p']).tail.tail.tail.tail.tail.tail.tail _ _⟩)
 have hm := Lt.make hok pr.pg
 have hms := hm.sz
 have hmo := hm.ok
 rw [if_neg h4] at e
 refine z2 ?_
 refine x_draw [0, 1, 2, 3, 4, 5, 6, 7, 8, 9, 10, 11] mixed (by kernel_rfl) ?_
 replace hw := hw.drawn (w.drawn + 1)
 refine z5 ?_
 refine lD (v := .pointer (some ⟨vq, 0, none⟩)) one_p_vault_Vault hw ?_
 refine z1 ?_
 refine lA (l := pl.cells) many_api_Page hw ?_
 refine x_call rfl rfl trivial cal_vault_Vault_Write rfl (ct_vault_Vault_Write (p := pl) (n := n) (hw.b [vaA vq _, pgO pl]) (pgParts_ok hsl pK) hmo (by omega)) (by kernel_rfl) (fun w v61 hv => ?_)
 obtain ⟨rfl, hw⟩ := hv
 refine z5 ?_
 exact end3 rfl rfl rfl rfl rfl (by
 rw [e]
 exact ⟨_, rfl, (hw.b [pgO pl, pgO pr, blk b10 _ _, blk b9 _ _, blk b7 _ _, pgO p', row 5 1 sv _ _]).tail.tail.tail.tail.tail.tail⟩)
theorem ct_put_putter_root {vq xq : Nat} {V : Va} {T : Tr} {x : ItV} {was : Bool} (hw : Sat G (vaA vq V :: blk xq (puC vq T x was) 116 :: L) w) (hok : V.Ok) (hsz : V.sz ≤ 999999999900) (hh : 0 ≤ T.height ∧ T.height ≤ 1000000) :
  Calls Tryz.prog 89 #[.pointer (some ⟨xq, 0, none⟩)] w (Ret fun r w' => r = .tuple #[.int .i64 (rootP V T).2.2.1, .int .i64 (rootP V T).2.2.2] ∧ Sat G (vaA vq (rootP V T).1 :: blk xq (puC vq (rootP V T).2.1 x was) 116 :: L) w') := by
 refine calls_of_x (args := [_]) Tryz.func89 rfl Tryz.ntmps89 rfl rfl ?_
 refine z6 ?_
 refine x_draw [0, 1, 2, 3, 4, 5, 6, 7, 8, 9, 10, 11, 12, 13, 14] mixed (by kernel_rfl) ?_
 replace hw := hw.drawn (w.drawn + 1)
 refine z3 ?_
 refine lD (v := .pointer (some ⟨vq, 0, none⟩)) one_p_vault_Vault hw ?_
 refine z3 ?_
 refine x_fldk rfl rfl trivial fo_api_Tree_0 rfl ?_
 refine lD (v := .int .i64 T.root) one_int hw ?_
 refine x_call rfl rfl trivial cal_vault_Vault_Shadow rfl (ct_vault_Vault_Shadow (n := T.root) hw hok (by omega)) (by kernel_rfl) (fun w v19 hv => ?_)
 obtain ⟨rfl, hw⟩ := hv
 have hs := Lt.shadow hok T.root
 have hss := hs.sz
 have hso := hs.ok
 refine z12 ?_
 refine x_if rfl (fun h1 => ?_) (fun h1 => ?_)
 ·
  refine z7 ?_
  exact end2 rfl rfl rfl rfl (by
 have e : rootP V T = ((V.shadow T.root).2.2, T, 0, (V.shadow T.root).2.1) := by unfold rootP; rw [if_pos h1]
 rw [e]
 exact ⟨rfl, hw⟩)
 obtain ⟨n, hn⟩ : ∃ n, n = (V.shadow T.root).1 := ⟨_, rfl⟩
 obtain ⟨V1, hV1⟩ : ∃ V1, V1 = (V.shadow T.root).2.2 := ⟨_, rfl⟩
 rw [← hn]
 rw [← hV1] at hw hss hso
 have e : rootP V T = if (halfP V1 n).2.2.2 ≠ 0 ∨ (halfP V1 n).2.1 = 0 then ((halfP V1 n).1, ⟨n, T.height, T.items⟩, n, (halfP V1 n).2.2.2) else
   (((halfP V1 n).1.make ⟨2, T.height, [⟨[], [], n, 0⟩, ⟨(halfP V1 n).2.2.1, [], (halfP V1 n).2.1, 0⟩], [], 0⟩).2.2, ⟨((halfP V1 n).1.make ⟨2, T.height, [⟨[], [], n, 0⟩, ⟨(halfP V1 n).2.2.1, [], (halfP V1 n).2.1, 0⟩], [], 0⟩).1, T.height + 1, T.items⟩, ((halfP V1 n).1.make ⟨2, T.height, [⟨[], [], n, 0⟩, ⟨(halfP V1 n).2.2.1, [], (halfP V1 n).2.1, 0⟩], [], 0⟩).1, ((halfP V1 n).1.make ⟨2, T.height, [⟨[], [], n, 0⟩, ⟨(halfP V1 n).2.2.1, [], (halfP V1 n).2.1, 0⟩], [], 0⟩).2.1) := by
  unfold rootP; rw [if_neg h1, ← hn, ← hV1]
 refine z7 ?_
 refine x_fldk rfl rfl trivial fo_api_Tree_0 rfl ?_
 refine x_st1 (l' := puC vq ⟨n, T.height, T.items⟩ x was) rfl trivial rfl rfl one_int rfl hw pK rfl rfl rfl (fun w hw => ?_)
 refine z5 ?_
 refine x_call rfl rfl trivial cal_put_putter_half rfl (ct_put_putter_half (V := V1) (T := ⟨n, T.height, T.items⟩) (x := x) (was := was) (n := n) (hw.b [vaA vq V1, blk xq _ _]) hso (by omega)) rfl (fun w v33 hv => ?_)
 obtain ⟨sv, rfl, hw⟩ := hv
 have hh' := Lt.half hso n
 have hhs := hh'.sz
 have hho := hh'.ok
 obtain ⟨h, hhe⟩ : ∃ h, h = halfP V1 n := ⟨_, rfl⟩
 have hsep := half_sep hso n
 rw [← hhe] at hw hhs hho e hsep
 rw [← hhe]
 refine z14 ?_
 refine xl_and (l1 := [3, 4, 5]) (l2 := []) rfl (d := 42) (h.2.2.2 ≠ 0 ∨ h.2.1 = 0) rfl ?_ ?_
 ·
  refine xl_split (d := 39) rfl (fun h2 => ?_) (fun h2 => ?_)
  ·
   refine z4 ?_
   refine cQ ?_
   exact dC
  refine z4 ?_
  refine cQ ?_
  exact dC
 refine xl_nil ?_
 refine x_if rfl (fun h3 => ?_) (fun h3 => ?_)
 ·
  refine z8 ?_
  exact end2 rfl rfl rfl rfl (by
 rw [if_pos h3] at e
 rw [e]
 exact ⟨rfl, (hw.b [row 5 1 sv _ _]).tail⟩)
 rw [if_neg h3] at e
 obtain ⟨sa, sc, rfl⟩ := row_form hw
 refine z6 ?_
 refine x_fldk rfl rfl trivial fo_api_Tree_1 rfl ?_
 refine lD (v := .int .i64 T.height) one_int hw ?_
 refine z1 ?_
 refine x_build (v := .agg #[.slice none 0 0, .slice none 0 0, .int .i64 n, .int .i64 0]) rfl rfl trivial rfl (fun w => by kernel_rfl) ?_
 refine z2 ?_
 refine x_build (v := .agg #[.slice sa h.2.2.1.length sc, .slice none 0 0, .int .i64 h.2.1, .int .i64 0]) rfl rfl trivial rfl (fun w => by kernel_rfl) ?_
 refine x_bsN (cs := [[.slice none 0 0, .slice none 0 0, .int .i64 n, .int .i64 0], [.slice sa h.2.2.1.length sc, .slice none 0 0, .int .i64 h.2.1, .int .i64 0]].flatten) rfl rfl trivial U_sl_api_Item sz_api_Item z_api_Item (by decide) rfl (by kernel_rfl) hw rfl (fun w b55 hw => ?_)
 obtain ⟨tp, htp⟩ : ∃ tp : PgV, tp = ⟨2, T.height, [⟨⟨[], [], n, 0⟩, .slice none 0 0, .slice none 0 0⟩, ⟨⟨h.2.2.1, [], h.2.1, 0⟩, .slice sa h.2.2.1.length sc, .slice none 0 0⟩], .slice (some ⟨b55, 0, none⟩) 2 2, .slice none 0 0, [], 0⟩ := ⟨_, rfl⟩
 have htpg : tp.pg = ⟨2, T.height, [⟨[], [], n, 0⟩, ⟨h.2.2.1, [], h.2.1, 0⟩], [], 0⟩ := by rw [htp]; rfl
 have hto : tp.Ok [blk b55 [[.slice none 0 0, .slice none 0 0, .int .i64 n, .int .i64 0], [.slice sa h.2.2.1.length sc, .slice none 0 0, .int .i64 h.2.1, .int .i64 0]].flatten 114, row 5 1 (.slice sa h.2.2.1.length sc) h.2.2.1.length (bys h.2.2.1)] := by
  rw [htp]
  refine ⟨⟨?_, fun y hy => ?_, by simp⟩, nilB, by unfold Small; simp⟩
  ·exact (slT_blkN (rs := [[.slice none 0 0, .slice none 0 0, .int .i64 n, .int .i64 0], [.slice sa h.2.2.1.length sc, .slice none 0 0, .int .i64 h.2.1, .int .i64 0]]) (z := 4) (by intro r hr; simp at hr; rcases hr with rfl | rfl <;> rfl)).head _
  simp only [List.mem_cons, List.not_mem_nil, or_false] at hy
  rcases hy with rfl | rfl
  ·exact ⟨nilB, nilB, by unfold Small; simp, by unfold Small; simp⟩
  exact ⟨rowB rfl (.there .here), nilB, hsep, by unfold Small; simp⟩
 refine x_build (v := .agg tp.cells.toArray) rfl rfl trivial rfl (fun w => by rw [htp]; kernel_rfl) ?_
 refine x_alloc rfl rfl trivial z_api_Page hw rfl (fun w b8 hw => ?_)
 refine x_stN (cs := tp.cells) (l' := tp.cells) rfl trivial rfl rfl many_api_Page rfl (by rw [htp]; intro u hu; simp [PgV.cells] at hu; rcases hu with rfl | rfl | rfl | rfl | rfl <;> rfl) hw pK (by simp [PgV.cells]) rfl rfl (fun w hw => ?_)
 refine z2 ?_
 refine x_draw [0, 1, 2, 3, 4, 5, 6, 7, 8, 9, 10, 11, 12, 13, 14] mixed (by kernel_rfl) ?_
 replace hw := hw.drawn (w.drawn + 1)
 refine z4 ?_
 refine lD (v := .pointer (some ⟨vq, 0, none⟩)) one_p_vault_Vault hw ?_
 refine lA (l := tp.cells) many_api_Page hw ?_
 refine x_call rfl rfl trivial cal_vault_Vault_Make rfl (ct_vault_Vault_Make (p := tp) (hw.b [vaA vq h.1, blk b55 _ _, row 5 1 (.slice sa _ _) _ _]) (hto.front _) hho (by omega)) (by kernel_rfl) (fun w v64 hv => ?_)
 rw [htpg] at hv
 obtain ⟨rfl, hw⟩ := hv
 obtain ⟨mk, hmk⟩ : ∃ mk, mk = h.1.make ⟨2, T.height, [⟨[], [], n, 0⟩, ⟨h.2.2.1, [], h.2.1, 0⟩], [], 0⟩ := ⟨_, rfl⟩
 rw [← hmk] at hw e
 rw [← hmk]
 refine z5 ?_
 refine x_fldk rfl rfl trivial fo_api_Tree_0 rfl ?_
 refine x_st1 (l' := puC vq ⟨mk.1, T.height, T.items⟩ x was) rfl trivial rfl rfl one_int rfl hw pK rfl rfl (by kernel_rfl) (fun w hw => ?_)
 refine z7 ?_
 refine x_fldk rfl rfl trivial fo_api_Tree_1 rfl ?_
 refine lD (v := .int .i64 T.height) one_int hw ?_
 refine z3 ?_
 refine x_fldk rfl rfl trivial fo_api_Tree_1 rfl ?_
 refine x_st1 (l' := puC vq ⟨mk.1, T.height + 1, T.items⟩ x was) rfl trivial rfl rfl one_int rfl hw pK rfl rfl rfl (fun w hw => ?_)
 refine z6 ?_
 refine x_fldk rfl rfl trivial fo_api_Tree_0 rfl ?_
 refine lD (v := .int .i64 mk.1) one_int hw ?_
 refine z5 ?_
 exact end2 rfl rfl rfl rfl (by
 rw [e]
 exact ⟨rfl, (hw.b [blk b8 _ _, blk b55 _ _, row 5 1 (.slice sa _ _) _ _, vaA vq _, blk xq _ _]).tail.tail.tail⟩)
end
theorem setChild_eq : ∀ {l : List It} {k : Nat} {x : It} (c : Int), l[k]? = some x → setChild l k c = l.set k { x with child := c }
 | [], k, x, c, h => by simp at h
 | y :: l, 0, x, c, h => by simp at h; subst h; rfl
 | y :: l, k + 1, x, c, h => by
  have ih := setChild_eq (l := l) (k := k) (x := x) c (by simpa using h)
  unfold setChild at ih ⊢
  simp only [List.modify_succ_cons, List.set_cons_succ, ih]
theorem set_parts : ∀ {l : List ItV} {k : Nat} {x x' : ItV}, l[k]? = some x → itParts x' = itParts x → (l.set k x').flatMap itParts = l.flatMap itParts
 | [], k, x, x', h, _ => by simp at h
 | y :: l, 0, x, x', h, he => by simp at h; subst h; simp [he]
 | y :: l, k + 1, x, x', h, he => by simp only [List.set_cons_succ, List.flatMap_cons]; rw [set_parts (by simpa using h) he]
theorem routeK_child {l : List ItV} {k : Nat} {x : ItV} (h : l[k]? = some x) : childAt (l.map ItV.it) k = x.it.child := by unfold childAt; rw [List.getElem?_map, h]; rfl
section
variable {G : Gh} {L R : List Assn} {w : World}
theorem ct_put_putter_down {vq xq : Nat} {V : Va} {T : Tr} {x : ItV} {was : Bool} {n : Int} {p : PgV} (hw : Sat G (vaA vq V :: blk xq (puC vq T x was) 116 :: pgO p :: L) w) (hok : V.Ok) (hsz : V.sz ≤ 999999999900) (hx : x.Ok L) (hps : p.Sm) (hp8 : p.l.length ≤ 8) :
  Calls Tryz.prog 90 #[.pointer (some ⟨xq, 0, none⟩), .int .i64 n, .agg p.cells.toArray] w (Ret fun r w' => r = .tuple #[.int .i64 (downP V n p.pg x.it.key).2.1, .int .i64 (downP V n p.pg x.it.key).2.2] ∧ Sat G (vaA vq (downP V n p.pg x.it.key).1 :: blk xq (puC vq T x was) 116 :: L) w') := by
 have hpl : p.pg.items.length = p.l.length := by simp [PgV.pg]
 obtain ⟨ia, ic, hs⟩ := hps.form hw pK
 refine calls_of_x (args := [_, _, _]) Tryz.func90 rfl Tryz.ntmps90 rfl rfl ?_
 refine z2 ?_
 refine x_box rfl rfl trivial rfl rfl hw rfl (fun w b5 hw => ?_)
 refine z4 ?_
 refine x_draw [0, 1, 2, 3, 4, 5, 6, 7] mixed (by kernel_rfl) ?_
 replace hw := hw.drawn (w.drawn + 1)
 refine lA (l := p.cells) many_api_Page hw ?_
 refine z3 ?_
 refine x_fldk rfl rfl trivial fo_api_Item_0 rfl ?_
 refine lD (v := x.kv) one_sl_uint8 hw ?_
 refine x_call rfl rfl trivial cal_node_Route rfl (ct_node_Route (p := p) hw (pgParts_ok hps pK) (hx.k.of sF)) (by kernel_rfl) (fun w v20 hv => ?_)
 obtain ⟨rfl, hw⟩ := hv
 obtain ⟨at_, hat⟩ : ∃ a, a = routeK x.it.key p.pg.items := ⟨_, rfl⟩
 rw [← hat]
 refine z7 ?_
 refine x_ld rfl rfl trivial rfl (Loads.blk1 (v := .slice ia p.l.length ic) one_sl_api_Item hw pK (by rw [← hs]; rfl)) ?_
 refine z3 ?_
 refine x_if rfl (fun h1 => ?_) (fun h1 => ?_)
 ·
  refine z6 ?_
  exact end2 rfl rfl rfl rfl (by
 have e : downP V n p.pg x.it.key = (V, 0, 5) := by unfold downP; simp only; rw [← hat, if_pos (by omega)]
 rw [e]
 exact ⟨rfl, (hw.b [blk b5 _ _, pgO p]).tail.tail⟩)
 have hatl : at_ < p.l.length := by omega
 obtain ⟨y, hy⟩ : ∃ y, p.l[at_]? = some y := ⟨_, List.getElem?_eq_getElem hatl⟩
 have hyr : (p.l.map ItV.cells)[at_]? = some y.cells := by rw [List.getElem?_map, hy]; rfl
 have hyi : p.pg.items[at_]? = some y.it := by show (p.l.map ItV.it)[_]? = _; rw [List.getElem?_map, hy]; rfl
 have hch : childAt p.pg.items at_ = y.it.child := routeK_child hy
 have hpo : p.Ok [pgO p] := pgParts_ok hps .here
 have hsl : SlT 4 (.slice ia p.l.length ic) (p.l.map ItV.cells) w := by rw [← hs]; exact hpo.its.sl.at (hw.pick (A := pgO p) pK).head
 obtain ⟨ib, io, hia⟩ := hsl.nn (by rw [List.length_map]; omega)
 refine z2 ?_
 refine x_draw [0, 1, 2, 3, 4, 5, 6, 7, 8, 9, 10, 11, 12, 13, 14, 15] mixed (by kernel_rfl) ?_
 replace hw := hw.drawn (w.drawn + 1)
 refine z3 ?_
 refine lD one_p_vault_Vault hw ?_
 refine z1 ?_
 refine x_ld rfl rfl trivial rfl (Loads.blk1 (v := .slice (some ⟨ib, io, none⟩) p.l.length ic) one_sl_api_Item hw pK (by rw [← hia, ← hs]; rfl)) ?_
 refine z1 ?_
 refine x_idx rfl rfl trivial U_sl_api_Item sz_api_Item rfl rfl ⟨by omega, by omega⟩ ?_
 refine x_fldk rfl rfl trivial fo_api_Item_2 rfl ?_
 refine x_ld rfl rfl trivial rfl (Loads.one (v := .int .i64 y.it.child) one_int (by
 have hsl : SlT 4 (.slice (some ⟨ib, io, none⟩) p.l.length ic) (p.l.map ItV.cells) w := by rw [← hia, ← hs]; exact hpo.its.sl.at (hw.pick (A := pgO p) pK).head
 exact hsl.cell (j := 2) hyr rfl)) ?_
 refine x_call rfl rfl trivial cal_vault_Vault_Shadow rfl (ct_vault_Vault_Shadow (n := y.it.child) (hw.b [vaA vq V]) hok (by omega)) (by kernel_rfl) (fun w v37 hv => ?_)
 obtain ⟨rfl, hw⟩ := hv
 have hsd := Lt.shadow hok y.it.child
 have hss := hsd.sz
 have hso := hsd.ok
 obtain ⟨s, hse⟩ : ∃ s, s = V.shadow y.it.child := ⟨_, rfl⟩
 rw [← hse] at hw hss hso
 rw [← hse]
 refine z12 ?_
 refine x_if rfl (fun h2 => ?_) (fun h2 => ?_)
 ·
  refine z7 ?_
  exact end2 rfl rfl rfl rfl (by
 have e : downP V n p.pg x.it.key = (s.2.2, 0, s.2.1) := by unfold downP; simp only; rw [← hat, if_neg (by omega), hch, ← hse, if_pos h2]
 rw [e]
 exact ⟨rfl, (hw.b [blk b5 _ _, pgO p]).tail.tail⟩)
 rcases p with ⟨kd, lv, pl, psv, pd, pdt, pnx⟩
 simp only at hs hpl hatl hp8 hy
 have hz := Sat.both_out (M := pgParts _) (hw.b [pgO ⟨kd, lv, pl, psv, pd, pdt, pnx⟩])
 simp only [pgParts, List.cons_append, List.nil_append] at hz
 clear hw
 have hw := hz
 clear hz hsl
 subst hs
 obtain ⟨hfl, sb, cur, hia2, hcc, hcm, hcl, hw⟩ := row_some hw (by omega)
 obtain ⟨y', hy'⟩ : ∃ y' : ItV, y' = ⟨⟨y.it.key, y.it.value, s.1, y.it.size⟩, y.kv, y.vv⟩ := ⟨_, rfl⟩
 obtain ⟨p1, hp1⟩ : ∃ p1 : PgV, p1 = ⟨kd, lv, pl.set at_ y', .slice ia pl.length ic, pd, pdt, pnx⟩ := ⟨_, rfl⟩
 refine z4 ?_
 refine x_ld rfl rfl trivial rfl (Loads.blk1 (v := .slice (some ⟨sb, 0, none⟩) pl.length ic) one_sl_api_Item hw pK (by rw [← hia2]; rfl)) ?_
 refine z2 ?_
 refine x_idx rfl rfl trivial U_sl_api_Item sz_api_Item rfl rfl ⟨by omega, by omega⟩ ?_
 refine x_fldk rfl rfl trivial fo_api_Item_2 rfl ?_
 refine x_st1 (l' := ((pl.set at_ y').map ItV.cells).flatten ++ cur) rfl trivial rfl rfl one_int rfl hw pK (by rw [cells_len]; exact idx_lt hatl (by omega) _) (by rw [hy']; exact items_set2 hy _) rfl (fun w hw => ?_)
 have hw := row_mk (m := pl.length) (z := 4) hw (by rw [flatten_length (cells_z _), List.length_map, List.length_set]) hcc hcm (by rw [← hcl, cells_len, cells_len, List.length_set])
 rw [← hia2] at hw
 have hz := hw.b [row 114 4 _ _ _, both (pl.flatMap itParts), row 5 1 pd _ _]
 have hz := Sat.both_in (M := pgParts p1) (by
    rw [hp1]
    simp only [pgParts, List.length_set]
    rw [set_parts hy (x' := y') (by rw [hy']; rfl)]
    exact hz)
 have hps1 : p1.Sm := by
  rw [hp1]
  exact ⟨by show (pl.set at_ y').length ≤ _; rw [List.length_set]; omega, fun z hz => by
     rcases List.mem_or_eq_of_mem_set hz with hz | hz
     ·exact hps.it z hz
     ·rw [hz, hy']; exact hps.it y (List.mem_of_getElem? hy), hps.sd⟩
 have hcl1 : PgV.cells ⟨kd, lv, pl, .slice ia pl.length ic, pd, pdt, pnx⟩ = p1.cells := by rw [hp1]; rfl
 rw [hcl1] at hz
 have hpp1 : p1.pg = { kind := kd, level := lv, items := setChild (pl.map ItV.it) at_ s.1, data := pdt, next := pnx } := by
  rw [hp1, setChild_eq s.1 (x := y.it) (by rw [List.getElem?_map, hy]; rfl)]
  simp only [PgV.pg, List.map_set, hy']
 have hl1 : p1.l.length = pl.length := by rw [hp1]; simp
 clear hw
 have hw : Sat G (pgO p1 :: _) w := hz
 clear hz
 refine z5 ?_
 refine x_call rfl rfl trivial cal_put_putter_half rfl (ct_put_putter_half (V := s.2.2) (T := T) (x := x) (was := was) (n := s.1) (hw.b [vaA vq s.2.2, blk xq _ _]) hso (by omega)) rfl (fun w v52 hv => ?_)
 obtain ⟨sv, rfl, hw⟩ := hv
 have hh' := Lt.half hso s.1
 have hhs := hh'.sz
 have hho := hh'.ok
 have hsep := half_sep hso s.1
 obtain ⟨h, hhe⟩ : ∃ h, h = halfP s.2.2 s.1 := ⟨_, rfl⟩
 rw [← hhe] at hw hhs hho hsep
 rw [← hhe]
 have hdn : downP V n ⟨kd, lv, pl.map ItV.it, pdt, pnx⟩ x.it.key = if h.2.2.2 ≠ 0 then (h.1, 0, h.2.2.2) else
   if h.2.1 ≠ 0 ∧ ¬ (at_ + 1 ≤ p1.pg.items.length ∧ p1.pg.items.length < 8) then (h.1, 0, 5) else
   ((h.1.write n (if h.2.1 ≠ 0 then { p1.pg with items := p1.pg.items.take (at_ + 1) ++ [⟨h.2.2.1, [], h.2.1, 0⟩] ++ p1.pg.items.drop (at_ + 1) } else p1.pg)).2,
      if (h.1.write n (if h.2.1 ≠ 0 then { p1.pg with items := p1.pg.items.take (at_ + 1) ++ [⟨h.2.2.1, [], h.2.1, 0⟩] ++ p1.pg.items.drop (at_ + 1) } else p1.pg)).1 ≠ 0 then 0 else childAt (if h.2.1 ≠ 0 then { p1.pg with items := p1.pg.items.take (at_ + 1) ++ [⟨h.2.2.1, [], h.2.1, 0⟩] ++ p1.pg.items.drop (at_ + 1) } else p1.pg).items (routeK x.it.key (if h.2.1 ≠ 0 then { p1.pg with items := p1.pg.items.take (at_ + 1) ++ [⟨h.2.2.1, [], h.2.1, 0⟩] ++ p1.pg.items.drop (at_ + 1) } else p1.pg).items),
      (h.1.write n (if h.2.1 ≠ 0 then { p1.pg with items := p1.pg.items.take (at_ + 1) ++ [⟨h.2.2.1, [], h.2.1, 0⟩] ++ p1.pg.items.drop (at_ + 1) } else p1.pg)).1) := by
  have hat' : at_ = routeK x.it.key (pl.map ItV.it) := hat
  have hch' : childAt (pl.map ItV.it) at_ = y.it.child := hch
  unfold downP
  simp only
  rw [← hat', if_neg (by rw [List.length_map]; omega), hch', ← hse, if_neg h2, ← hhe, hpp1]
 obtain ⟨P2, hP2⟩ : ∃ P2 : Pg, P2 = (if h.2.1 ≠ 0 then { p1.pg with items := p1.pg.items.take (at_ + 1) ++ [⟨h.2.2.1, [], h.2.1, 0⟩] ++ p1.pg.items.drop (at_ + 1) } else p1.pg) := ⟨_, rfl⟩
 rw [← hP2] at hdn
 have hpp : PgV.pg ⟨kd, lv, pl, .slice ia pl.length ic, pd, pdt, pnx⟩ = ⟨kd, lv, pl.map ItV.it, pdt, pnx⟩ := rfl
 rw [hpp]
 have hpil : p1.pg.items.length = p1.l.length := by simp [PgV.pg]
 refine z14 ?_
 refine x_if rfl (fun h3 => ?_) (fun h3 => ?_)
 ·
  refine z7 ?_
  exact end2 rfl rfl rfl rfl (by
 rw [if_pos h3] at hdn
 rw [hdn]
 exact ⟨rfl, (hw.b [row 5 1 sv _ _, pgO p1, blk b5 _ _, vaA vq _, blk xq _ _]).tail.tail.tail⟩)
 rw [if_neg h3] at hdn
 obtain ⟨sa, sc, rfl⟩ := row_form hw
 refine x_skip ?_
 refine x_join (fun e w => (¬ (h.2.1 ≠ 0 ∧ ¬ (at_ + 1 ≤ p1.pg.items.length ∧ p1.pg.items.length < 8))) ∧ ∃ p2 : PgV, e = [(0, .pointer (some ⟨xq, 0, none⟩)), (1, .int .i64 n), (5, .pointer (some ⟨b5, 0, none⟩))] ∧ (p2.pg = P2 ∧ p2.Sm ∧ 0 < p2.l.length) ∧ Sat G (vaA vq h.1 :: blk xq (puC vq T x was) 116 :: blk b5 p2.cells 75 :: pgO p2 :: L) w) ?_ ?_
 ·
  refine z5 ?_
  refine x_if rfl (fun h4 => ?_) (fun h4 => ?_)
  ·
   refine z6 ?_
   refine lA (l := p1.cells) many_api_Page hw ?_
   refine z4 ?_
   refine x_build (v := .agg (ItV.cells ⟨⟨h.2.2.1, [], h.2.1, 0⟩, .slice sa h.2.2.1.length sc, .slice none 0 0⟩).toArray) rfl rfl trivial rfl (fun w => by kernel_rfl) ?_
   have hcast : (at_ : Int) + 1 = ((at_ + 1 : Nat) : Int) := by omega
   rw [hcast]
   refine x_call rfl rfl trivial cal_node_Insert rfl (ct_node_Insert (p := p1) (x := ⟨⟨h.2.2.1, [], h.2.1, 0⟩, .slice sa h.2.2.1.length sc, .slice none 0 0⟩) (at_ := at_ + 1) hw (pgParts_ok hps1 pK) (pgO_plain (hw.pick (A := pgO p1) pK)) ⟨rowB rfl pK, nilB, hsep, by unfold Small; simp⟩) rfl (fun w v68 hv => ?_)
   have hv2 : ∃ (p2 : PgV) (bo : Bool) (A : Assn), v68 = .tuple #[.agg p2.cells.toArray, .bool bo] ∧ Ones p2.cells ∧ ((bo = false ∧ ¬ (at_ + 1 ≤ p1.l.length ∧ p1.l.length < 8) ∧ A = both []) ∨ (bo = true ∧ (at_ + 1 ≤ p1.l.length ∧ p1.l.length < 8) ∧ A = pgO p2 ∧ p2.Sm ∧ p2.pg = { p1.pg with items := p1.pg.items.take (at_ + 1) ++ [⟨h.2.2.1, [], h.2.1, 0⟩] ++ p1.pg.items.drop (at_ + 1) })) ∧ Sat G (A :: row 5 1 (.slice sa h.2.2.1.length sc) h.2.2.1.length (bys h.2.2.1) :: vaA vq h.1 :: blk xq (puC vq T x was) 116 :: pgO p1 :: blk b5 p1.cells 75 :: L) w := by
    rcases hv with ⟨h5, h6, h7⟩ | ⟨h5, p2, h6, h7, h8, h9⟩
    ·exact ⟨pgZ, false, both [], h6, pgZ_ones, .inl ⟨rfl, h5, rfl⟩, Sat.both_in (M := []) (h7.b [row 5 1 (.slice sa _ _) _ _, vaA vq _, blk xq _ _, pgO p1, blk b5 _ _])⟩
    exact ⟨p2, true, _, h6, ones_pg (pgParts_ok h8 pK) h9, .inr ⟨rfl, h5, rfl, h8, h7⟩, h9.b [pgO p2, row 5 1 (.slice sa _ _) _ _, vaA vq _, blk xq _ _, pgO p1, blk b5 _ _]⟩
   obtain ⟨p2, bo, A, rfl, hone2, hcs, hw⟩ := hv2
   refine z3 ?_
   refine x_stN (cs := p2.cells) (l' := p2.cells) rfl trivial rfl rfl many_api_Page rfl hone2 hw pK (by simp [PgV.cells]) rfl rfl (fun w hw => ?_)
   refine z5 ?_
   refine x_not rfl rfl trivial rfl ?_
   refine xl_nil ?_
   refine x_cond rfl (fun h5 => ?_) (fun h5 => ?_)
   ·
    refine z6 ?_
    exact end2 rfl rfl rfl rfl (by
 obtain ⟨rfl, hno, rfl⟩ := hcs.resolve_right (fun h => by rw [h.1] at h5; simp at h5)
 rw [if_pos ⟨h4, by rw [hpil]; exact hno⟩] at hdn
 rw [hdn]
 exact ⟨rfl, (hw.b [blk b5 _ _, both _, row 5 1 (.slice sa _ _) _ _, pgO p1]).tail.tail.tail.tail⟩)
   refine x_skip ?_
   obtain ⟨rfl, hyes, rfl, hps2, hpe2⟩ := hcs.resolve_left (fun h => by rw [h.1] at h5; simp at h5)
   have hpil2 : p2.l.length = p2.pg.items.length := by simp [PgV.pg]
   exact ⟨[(0, _), (1, _), (5, _)], sB, fun hx => hx.2 (by rw [hpil]; exact hyes), p2, rfl, ⟨by rw [hP2, if_pos h4]; exact hpe2, hps2, by rw [hpil2, hpe2]; simp; omega⟩, (hw.b [row 5 1 (.slice sa _ _) _ _, pgO p1, vaA vq _, blk xq _ _, blk b5 _ _, pgO p2]).tail.tail⟩
  refine x_skip ?_
  have h4 : h.2.1 = 0 := Decidable.not_not.1 h4
  exact ⟨[(0, _), (1, _), (5, _)], sB, fun hx => hx.1 h4, p1, rfl, ⟨by rw [hP2, if_neg (by omega)], hps1, by omega⟩, (hw.b [row 5 1 (.slice sa _ _) _ _, vaA vq _, blk xq _ _, blk b5 _ _, pgO p1]).tail⟩
 clear hw
 rintro e w ⟨hno, p2, rfl, ⟨hpe2, hps2, hp2l⟩, hw⟩
 rw [if_neg hno] at hdn
 have hl2 : p2.pg.items = p2.l.map ItV.it := rfl
 refine z2 ?_
 refine x_draw [0, 1, 2, 3, 4, 5, 6, 7] mixed (by kernel_rfl) ?_
 replace hw := hw.drawn (w.drawn + 1)
 refine z3 ?_
 refine lD (v := .pointer (some ⟨vq, 0, none⟩)) one_p_vault_Vault hw ?_
 refine z1 ?_
 refine lA (l := p2.cells) many_api_Page hw ?_
 refine x_call rfl rfl trivial cal_vault_Vault_Write rfl (ct_vault_Vault_Write (p := p2) (n := n) hw (pgParts_ok hps2 pK) hho (by omega)) (by kernel_rfl) (fun w v79 hv => ?_)
 rw [hpe2] at hv
 obtain ⟨rfl, hw⟩ := hv
 obtain ⟨wr, hwr⟩ : ∃ wr, wr = h.1.write n P2 := ⟨_, rfl⟩
 rw [← hwr] at hw hdn
 rw [← hwr]
 refine z7 ?_
 refine x_if rfl (fun h6 => ?_) (fun h6 => ?_)
 ·
  refine z7 ?_
  exact end2 rfl rfl rfl rfl (by
 rw [if_pos h6] at hdn
 rw [hdn]
 exact ⟨rfl, (hw.b [blk b5 _ _, pgO p2]).tail.tail⟩)
 have h6 : wr.1 = 0 := Decidable.not_not.1 h6
 rw [if_neg (by omega), h6] at hdn
 obtain ⟨ja, jc, hs2⟩ := hps2.form hw pK
 have hrl : routeK x.it.key P2.items < p2.l.length := by
  have h9 : P2.items.length = p2.l.length := by rw [← hpe2]; simp [PgV.pg]
  rw [← h9]; exact routeK_lt (by omega)
 obtain ⟨z, hz⟩ : ∃ z, p2.l[routeK x.it.key P2.items]? = some z := ⟨_, List.getElem?_eq_getElem hrl⟩
 have hzr : (p2.l.map ItV.cells)[routeK x.it.key P2.items]? = some z.cells := by rw [List.getElem?_map, hz]; rfl
 have hzc : childAt P2.items (routeK x.it.key P2.items) = z.it.child := by rw [← hpe2]; exact routeK_child (by rw [hpe2]; exact hz)
 rw [hzc] at hdn
 have hpo2 : p2.Ok [pgO p2] := pgParts_ok hps2 .here
 have hln2 := hps2.len
 have hsl2 : SlT 4 (.slice ja p2.l.length jc) (p2.l.map ItV.cells) w := by rw [← hs2]; exact hpo2.its.sl.at (hw.pick (A := pgO p2) pK).head
 obtain ⟨jb, jo, hja⟩ := hsl2.nn (by rw [List.length_map]; omega)
 refine z2 ?_
 refine x_draw [0, 1, 2, 3, 4, 5, 6, 7, 8, 9, 10, 11, 12, 13] mixed (by kernel_rfl) ?_
 replace hw := hw.drawn (w.drawn + 1)
 refine z1 ?_
 refine x_ld rfl rfl trivial rfl (Loads.blk1 (v := .slice (some ⟨jb, jo, none⟩) p2.l.length jc) one_sl_api_Item hw pK (by rw [← hja, ← hs2]; rfl)) ?_
 refine lA (l := p2.cells) many_api_Page hw ?_
 refine z3 ?_
 refine x_fldk rfl rfl trivial fo_api_Item_0 rfl ?_
 refine lD (v := x.kv) one_sl_uint8 hw ?_
 refine x_callP rfl rfl trivial cal_node_Route rfl (ct_node_Route (p := p2) hw (pgParts_ok hps2 pK) (hx.k.of sF)) (fun w v91 hv q' hq => ?_) (fun w v91 hv => ?_)
 ·
  obtain ⟨rfl, hw⟩ := hv
  have hq := pend_mem (l := [1]) (by kernel_rfl) hq
  simp only [List.mem_cons, List.not_mem_nil, or_false] at hq
  subst hq
  exact chk_ld rfl rfl rfl (Loads.blk1 (v := .slice (some ⟨jb, jo, none⟩) p2.l.length jc) one_sl_api_Item hw pK (by rw [← hja, ← hs2]; rfl))
 obtain ⟨rfl, hw⟩ := hv
 rw [hpe2]
 refine x_idx rfl rfl trivial U_sl_api_Item sz_api_Item rfl rfl ⟨by omega, by omega⟩ ?_
 refine x_fldk rfl rfl trivial fo_api_Item_2 rfl ?_
 refine x_ld rfl rfl trivial rfl (Loads.one (v := .int .i64 z.it.child) one_int (by
 have hsl : SlT 4 (.slice (some ⟨jb, jo, none⟩) p2.l.length jc) (p2.l.map ItV.cells) w := by rw [← hja, ← hs2]; exact hpo2.its.sl.at (hw.pick (A := pgO p2) pK).head
 exact hsl.cell (j := 2) hzr rfl)) ?_
 refine z4 ?_
 exact end2 rfl rfl rfl rfl (by
 rw [hdn]
 exact ⟨rfl, (hw.b [blk b5 _ _, pgO p2]).tail.tail⟩)
end
section
variable {G : Gh} {L R : List Assn} {w : World}
theorem ct_put_putter_add {vq xq : Nat} {V : Va} {T : Tr} {x : ItV} {was : Bool} {n : Int} {p : PgV} (hw : Sat G (vaA vq V :: blk xq (puC vq T x was) 116 :: pgO p :: L) w) (hok : V.Ok) (hsz : V.sz ≤ 999999999900) (hx : x.Ok L) (hps : p.Sm) (hT : 0 ≤ T.items ∧ T.items ≤ 1000000000000) :
  Calls Tryz.prog 46 #[.pointer (some ⟨xq, 0, none⟩), .int .i64 n, .agg p.cells.toArray] w (Ret fun r w' => r = .int .i64 (addP x.it V T n p.pg).2.2 ∧ Sat G (vaA vq (addP x.it V T n p.pg).1 :: blk xq (puC vq (addP x.it V T n p.pg).2.1 x was) 116 :: L) w') := by
 have hpl : p.pg.items.length = p.l.length := by simp [PgV.pg]
 refine calls_of_x (args := [_, _, _]) Tryz.func46 rfl Tryz.ntmps46 rfl rfl ?_
 refine z2 ?_
 refine x_box rfl rfl trivial rfl rfl hw rfl (fun w b5 hw => ?_)
 refine z3 ?_
 refine x_draw [0, 1, 2, 3, 4, 5, 6, 7, 8, 9, 10, 11] mixed (by kernel_rfl) ?_
 replace hw := hw.drawn (w.drawn + 1)
 refine lA (l := p.cells) many_api_Page hw ?_
 refine z3 ?_
 refine x_fldk rfl rfl trivial fo_api_Item_0 rfl ?_
 refine lD (v := x.kv) one_sl_uint8 hw ?_
 refine x_call rfl rfl trivial cal_node_Search rfl (ct_node_Search (p := p) hw (pgParts_ok hps pK) (hx.k.of sF)) (by kernel_rfl) (fun w v17 hv => ?_)
 obtain ⟨rfl, hw⟩ := hv
 obtain ⟨at_, hat⟩ : ∃ a, a = (searchK x.it.key p.pg.items 0).1 := ⟨_, rfl⟩
 rw [← hat]
 have hda : addP x.it V T n p.pg = if ¬ (at_ ≤ p.pg.items.length ∧ p.pg.items.length < 8) then (V, T, 5) else
   ((V.write n { p.pg with items := p.pg.items.take at_ ++ [x.it] ++ p.pg.items.drop at_ }).2, ⟨T.root, T.height, T.items + 1⟩, (V.write n { p.pg with items := p.pg.items.take at_ ++ [x.it] ++ p.pg.items.drop at_ }).1) := by
  unfold addP; rw [← hat]
 refine z7 ?_
 refine x_draw [0, 1, 2, 3, 4, 5, 6, 7, 8, 9, 10, 11] mixed (by kernel_rfl) ?_
 replace hw := hw.drawn (w.drawn + 1)
 refine lA (l := p.cells) many_api_Page hw ?_
 refine z4 ?_
 refine x_ld rfl rfl trivial rfl (Loads.blkN (cs := x.cells) many_api_Item hw pK (by rfl) rfl) ?_
 refine x_call rfl rfl trivial cal_node_Insert rfl (ct_node_Insert (p := p) (x := x) (at_ := at_) hw (pgParts_ok hps pK) (pgO_plain (hw.pick (A := pgO p) pK)) (hx.of sF)) (by kernel_rfl) (fun w v27 hv => ?_)
 have hv2 : ∃ (p2 : PgV) (bo : Bool) (A : Assn), v27 = .tuple #[.agg p2.cells.toArray, .bool bo] ∧ Ones p2.cells ∧ ((bo = false ∧ ¬ (at_ ≤ p.l.length ∧ p.l.length < 8) ∧ A = both []) ∨ (bo = true ∧ (at_ ≤ p.l.length ∧ p.l.length < 8) ∧ A = pgO p2 ∧ p2.Sm ∧ p2.pg = { p.pg with items := p.pg.items.take at_ ++ [x.it] ++ p.pg.items.drop at_ })) ∧ Sat G (A :: blk b5 p.cells 75 :: vaA vq V :: blk xq (puC vq T x was) 116 :: pgO p :: L) w := by
  rcases hv with ⟨h5, h6, h7⟩ | ⟨h5, p2, h6, h7, h8, h9⟩
  ·exact ⟨pgZ, false, both [], h6, pgZ_ones, .inl ⟨rfl, h5, rfl⟩, Sat.both_in (M := []) h7⟩
  exact ⟨p2, true, _, h6, ones_pg (pgParts_ok h8 pK) h9, .inr ⟨rfl, h5, rfl, h8, h7⟩, h9⟩
 obtain ⟨p2, bo, A, rfl, hone2, hcs, hw⟩ := hv2
 refine z3 ?_
 refine x_stN (cs := p2.cells) (l' := p2.cells) rfl trivial rfl rfl many_api_Page rfl hone2 hw pK (by simp [PgV.cells]) rfl (by kernel_rfl) (fun w hw => ?_)
 refine z6 ?_
 refine x_not rfl rfl trivial rfl ?_
 refine xl_nil ?_
 refine x_cond rfl (fun h1 => ?_) (fun h1 => ?_)
 ·
  refine z5 ?_
  exact end1 rfl rfl rfl (by
 obtain ⟨rfl, hno, rfl⟩ := hcs.resolve_right (fun h => by rw [h.1] at h1; simp at h1)
 rw [if_pos (by rw [hpl]; exact hno)] at hda
 rw [hda]
 exact ⟨rfl, (hw.b [blk b5 _ _, both _, pgO p]).tail.tail.tail⟩)
 obtain ⟨rfl, hyes, rfl, hps2, hpe2⟩ := hcs.resolve_left (fun h => by rw [h.1] at h1; simp at h1)
 rw [if_neg (by rw [hpl]; exact not_not_intro hyes)] at hda
 refine z6 ?_
 refine x_fldk rfl rfl trivial fo_api_Tree_2 rfl ?_
 refine lD (v := .int .i64 T.items) one_int hw ?_
 refine z3 ?_
 refine x_fldk rfl rfl trivial fo_api_Tree_2 rfl ?_
 refine x_st1 (l' := puC vq ⟨T.root, T.height, T.items + 1⟩ x was) rfl trivial rfl rfl one_int rfl hw pK rfl rfl rfl (fun w hw => ?_)
 refine z2 ?_
 refine x_draw [0, 1, 2, 3, 4, 5, 6, 7] mixed (by kernel_rfl) ?_
 replace hw := hw.drawn (w.drawn + 1)
 refine z3 ?_
 refine lD (v := .pointer (some ⟨vq, 0, none⟩)) one_p_vault_Vault hw ?_
 refine z1 ?_
 refine lA (l := p2.cells) many_api_Page hw ?_
 refine x_call rfl rfl trivial cal_vault_Vault_Write rfl (ct_vault_Vault_Write (p := p2) (n := n) (hw.b [vaA vq V, pgO p2]) (pgParts_ok hps2 pK) hok (by omega)) (by kernel_rfl) (fun w v47 hv => ?_)
 rw [hpe2] at hv
 obtain ⟨rfl, hw⟩ := hv
 refine z3 ?_
 exact end1 rfl rfl rfl (by
 rw [hda]
 exact ⟨rfl, (hw.b [pgO p2, blk b5 _ _, pgO p]).tail.tail.tail.b [vaA vq _, blk xq _ _]⟩)
theorem rootP_items (V : Va) (T : Tr) : (rootP V T).2.1.items = T.items := by
 unfold rootP
 simp only
 split
 ·rfl
 split <;> rfl
theorem ct_put_putter_put {vq xq f : Nat} {V : Va} {T : Tr} {x : ItV} {was : Bool} {lf : Nat} {leaf : Va → Tr → Int → Pg → Va × Tr × Int} {res : Va × Tr × Int} (hw : Sat G (vaA vq V :: blk xq (puC vq T x was) 116 :: L) w) (hok : V.Ok) (hsz : V.sz + 20 * f ≤ 999999999800) (hx : x.Ok L) (hh : 0 ≤ T.height ∧ T.height ≤ 1000000) (hT : 0 ≤ T.items ∧ T.items ≤ 1000000000000)
  (hcl : Callable Tryz.prog lf)
  (hlf : ∀ {L' : List Assn} {w : World} {V : Va} {T : Tr} {n : Int} {p : PgV}, Sat G (vaA vq V :: blk xq (puC vq T x was) 116 :: pgO p :: L') w → V.Ok → V.sz ≤ 999999999900 → x.Ok L' → p.Sm → (0 ≤ T.items ∧ T.items ≤ 1000000000000) → V.rd n = some p.pg →
   Calls Tryz.prog lf #[.pointer (some ⟨xq, 0, none⟩), .int .i64 n, .agg p.cells.toArray] w (Ret fun r w' => r = .int .i64 (leaf V T n p.pg).2.2 ∧ Sat G (vaA vq (leaf V T n p.pg).1 :: blk xq (puC vq (leaf V T n p.pg).2.1 x was) 116 :: L') w'))
  (hres : putP x.it leaf f V T = some res) :
  Calls Tryz.prog 48 #[.pointer (some ⟨xq, 0, none⟩), .func (.func lf) #[.pointer (some ⟨xq, 0, none⟩)] #[]] w (Ret fun r w' => r = .int .i64 res.2.2 ∧ Sat G (vaA vq res.1 :: blk xq (puC vq res.2.1 x was) 116 :: L) w') := by
 refine calls_of_x (args := [_, _]) Tryz.func48 rfl Tryz.ntmps48 rfl rfl ?_
 refine z10 ?_
 refine x_fldk rfl rfl trivial fo_api_Tree_0 rfl ?_
 refine lD (v := .int .i64 T.root) one_int hw ?_
 refine z2 ?_
 refine x_if rfl (fun h1 => ?_) (fun h1 => ?_)
 ·
  refine x_seq ?_
  refine x_draw [0, 1, 2, 3, 4, 5, 6, 7, 8, 9, 10, 11, 12, 13, 14, 15] mixed (by kernel_rfl) ?_
  replace hw := hw.drawn (w.drawn + 1)
  refine z3 ?_
  refine lD (v := .pointer (some ⟨vq, 0, none⟩)) one_p_vault_Vault hw ?_
  refine z3 ?_
  refine x_ld rfl rfl trivial rfl (Loads.blkN (cs := x.cells) many_api_Item hw pK (by rfl) rfl) ?_
  refine x_bs1P (cs := x.cells) rfl rfl trivial U_sl_api_Item sz_api_Item zs_api_Item (by decide) rfl rfl rfl hw (fun w b25 hw q' hq => ?_) (fun w b25 hw => ?_)
  ·
   have hq := pend_mem (l := [3]) (by kernel_rfl) hq
   simp only [List.mem_cons, List.not_mem_nil, or_false] at hq
   subst hq
   exact chk_ld rfl rfl rfl (Loads.blk1 (v := .pointer (some ⟨vq, 0, none⟩)) one_p_vault_Vault hw pK rfl)
  obtain ⟨tp, htp⟩ : ∃ tp : PgV, tp = ⟨1, 0, [x], .slice (some ⟨b25, 0, none⟩) 1 1, .slice none 0 0, [], 0⟩ := ⟨_, rfl⟩
  have htpg : tp.pg = ⟨1, 0, [x.it], [], 0⟩ := by rw [htp]; rfl
  have hto : tp.Ok (blk b25 x.cells 114 :: L) := by
   rw [htp]
   refine ⟨⟨?_, fun y hy => ?_, by simp⟩, nilB, by unfold Small; simp⟩
   ·have h0 := slT_blkN (z := 4) (b := b25) (T := 114) (rs := [x.cells]) (by intro r hr; simp at hr; rw [hr]; rfl)
    have h1 : Knows [blk b25 x.cells 114] (SlT 4 (.slice (some ⟨b25, 0, none⟩) 1 1) [x.cells]) := by
     simpa using h0
    exact h1.head _
   simp only [List.mem_cons, List.not_mem_nil, or_false] at hy
   rw [hy]; exact hx.of sF
  refine x_build (v := .agg tp.cells.toArray) rfl rfl trivial rfl (fun w => by rw [htp]; kernel_rfl) ?_
  refine x_call rfl rfl trivial cal_vault_Vault_Make rfl (ct_vault_Vault_Make (p := tp) (hw.b [vaA vq V, blk xq _ _, blk b25 _ _]) (hto.of sF) hok (by omega)) (by kernel_rfl) (fun w v27 hv => ?_)
  rw [htpg] at hv
  obtain ⟨rfl, hw⟩ := hv
  obtain ⟨mk, hmk⟩ : ∃ mk, mk = V.make ⟨1, 0, [x.it], [], 0⟩ := ⟨_, rfl⟩
  have e : some res = some (mk.2.2, ⟨mk.1, 1, 1⟩, mk.2.1) := by
   rw [← hres, hmk]; unfold putP; rw [if_pos h1]
  cases e
  rw [← hmk] at hw
  rw [← hmk]
  refine z10 ?_
  refine x_build (v := .agg #[.int .i64 mk.1, .int .i64 1, .int .i64 1]) rfl rfl trivial rfl (fun w => by kernel_rfl) ?_
  refine z2 ?_
  refine x_stN (cs := [.int .i64 mk.1, .int .i64 1, .int .i64 1]) (l' := puC vq ⟨mk.1, 1, 1⟩ x was) rfl trivial rfl rfl many_api_Tree rfl (by intro u hu; simp at hu; rcases hu with rfl | rfl | rfl <;> rfl) hw pK (by simp [puC, ItV.cells]) rfl rfl (fun w hw => ?_)
  refine z7 ?_
  exact end1 rfl rfl rfl (by
 exact ⟨rfl, (hw.b [blk b25 _ _]).tail.b [vaA vq _, blk xq _ _]⟩)
 refine z4 ?_
 refine x_call rfl rfl trivial cal_put_putter_root rfl (ct_put_putter_root (V := V) (T := T) (x := x) (was := was) hw hok (by omega) hh) rfl (fun w v38 hv => ?_)
 obtain ⟨rfl, hw⟩ := hv
 have hr' := Lt.root hok T
 have hrs := hr'.sz
 have hro := hr'.ok
 have hri := rootP_items V T
 rw [putP, if_neg h1] at hres
 obtain ⟨rt, hrt⟩ : ∃ rt, rt = rootP V T := ⟨_, rfl⟩
 rw [← hrt] at hw hrs hro hri hres
 rw [← hrt]
 refine z8 ?_
 refine x_loop (fun m e w => ∃ (k : Nat) (Y : Va) (T' : Tr) (n er : Int), m = k + 1 ∧ e = [(0, .pointer (some ⟨xq, 0, none⟩)), (1, .func (.func lf) #[.pointer (some ⟨xq, 0, none⟩)] #[]), (7, .int .i64 n), (8, .int .i64 er)] ∧ (Y.Ok ∧ Y.sz + 20 * k ≤ 999999999840 ∧ (0 ≤ T'.items ∧ T'.items ≤ 1000000000000) ∧ (er = 0 → putL x.it.key leaf k Y T' n = some res) ∧ (er ≠ 0 → (Y, T', er) = res)) ∧ Sat G (vaA vq Y :: blk xq (puC vq T' x was) 116 :: L) w)
  (m := f + 1) (e₀ := [(0, .pointer (some ⟨xq, 0, none⟩)), (1, .func (.func lf) #[.pointer (some ⟨xq, 0, none⟩)] #[]), (7, .int .i64 rt.2.2.1), (8, .int .i64 rt.2.2.2)]) sB
  ⟨f, rt.1, rt.2.1, rt.2.2.1, rt.2.2.2, rfl, rfl, ⟨hro, by omega, by rw [hri]; exact hT, fun h => by rw [if_neg (not_not_intro h)] at hres; exact hres, fun h => by rw [if_pos h] at hres; exact Option.some.inj hres⟩, hw⟩ ?_
 rintro m e w ⟨k, Y, T', n, er, rfl, rfl, ⟨hyo, hys, hyT, hy0, hy1⟩, hw⟩
 refine z6 ?_
 refine x_if rfl (fun h2 => ?_) (fun h2 => ?_)
 ·
  obtain rfl : er = 0 := h2
  have hpl := hy0 rfl
  obtain ⟨k, rfl⟩ : ∃ g, k = g + 1 := by
   cases k with
   | zero => rw [putL] at hpl; cases hpl
   | succ g => exact ⟨g, rfl⟩
  rw [putL] at hpl
  refine z4 ?_
  refine x_alloc rfl rfl trivial z_api_Page hw rfl (fun w b9 hw => ?_)
  refine z7 ?_
  refine lD (v := .pointer (some ⟨vq, 0, none⟩)) one_p_vault_Vault hw ?_
  refine z1 ?_
  refine x_call rfl rfl trivial cal_vault_Vault_Read rfl (ct_vaA_Read (n := n) (hw.b [vaA vq Y]) hyo) rfl (fun w v49 hv => ?_)
  obtain ⟨p', er', A, rfl, hone, hcs, hw⟩ := hv
  refine z3 ?_
  refine x_stN (cs := p'.cells) (l' := p'.cells) rfl trivial rfl rfl many_api_Page rfl hone hw pK (by simp [PgV.cells]) rfl rfl (fun w hw => ?_)
  refine z7 ?_
  refine x_if rfl (fun h3 => ?_) (fun h3 => ?_)
  ·
   obtain ⟨hrd, rfl, rfl, rfl⟩ := hcs.resolve_right (fun h => h3 h.2.1)
   rw [hrd] at hpl
   cases hpl
   refine z6 ?_
   exact end1 rfl rfl rfl ⟨rfl, (hw.b [both _, blk b9 _ _]).tail.tail.b [vaA vq _, blk xq _ _]⟩
  obtain ⟨hrd, rfl, rfl, hps⟩ := hcs.resolve_left (fun h => h3 (by have := h.2.1; omega))
  rw [hrd] at hpl
  simp only at hpl
  have hp8 := (check_items (Va.rd_check hyo hrd)).1
  have hpll : p'.pg.items.length = p'.l.length := by simp [PgV.pg]
  refine z5 ?_
  refine lD (v := .int .i64 p'.kind) one_int hw ?_
  refine z2 ?_
  refine x_if rfl (fun h4 => ?_) (fun h4 => ?_)
  ·
   refine z4 ?_
   refine lA (l := p'.cells) many_api_Page hw ?_
   refine x_callv rfl rfl trivial rfl hcl rfl rfl (hlf (T := T') (hw.b [vaA vq Y, blk xq _ _, pgO p']) hyo (by omega) (hx.of sF) hps hyT hrd) rfl (fun w v61 hv => ?_)
   obtain ⟨rfl, hw⟩ := hv
   refine z3 ?_
   exact end1 rfl rfl rfl (by
 rw [if_pos (show ¬ p'.pg.kind = 2 from h4)] at hpl
 cases hpl
 exact ⟨rfl, (hw.b [blk b9 _ _]).tail.b [vaA vq _, blk xq _ _]⟩)
  rw [if_neg (show ¬ ¬ p'.pg.kind = 2 from h4)] at hpl
  refine z4 ?_
  refine lA (l := p'.cells) many_api_Page hw ?_
  refine x_call rfl rfl trivial cal_put_putter_down rfl (ct_put_putter_down (T := T') (n := n) (p := p') (hw.b [vaA vq Y, blk xq _ _, pgO p']) hyo (by omega) (hx.of sF) hps (by omega)) rfl (fun w v66 hv => ?_)
  obtain ⟨rfl, hw⟩ := hv
  have hd' := Lt.down hyo n p'.pg x.it.key
  have hds := hd'.sz
  have hdo := hd'.ok
  obtain ⟨dn, hdn⟩ : ∃ dn, dn = downP Y n p'.pg x.it.key := ⟨_, rfl⟩
  rw [← hdn] at hw hds hdo hpl
  rw [← hdn]
  refine z6 ?_
  exact ⟨k + 1, by omega, [(0, _), (1, _), (7, _), (8, _)], sB, k, dn.1, T', dn.2.1, dn.2.2, rfl, rfl, ⟨hdo, by omega, hyT, fun h => by rw [if_neg (not_not_intro h)] at hpl; exact hpl, fun h => by rw [if_pos h] at hpl; exact Option.some.inj hpl⟩, (hw.b [blk b9 _ _]).tail.b [vaA vq _, blk xq _ _]⟩
 refine z7 ?_
 exact end1 rfl rfl rfl (by
 have h := hy1 h2
 subst h
 exact ⟨rfl, hw⟩)
end
def trZ : Tr := ⟨0, 0, 0⟩
def putO (f : Nat) (V : Va) (T : Tr) (key value : Bys) : Option (Tr × Bool × Int × Va) :=
 if ¬ (1 ≤ key.length ∧ key.length ≤ 24) then some (trZ, false, 7, V) else if 3840 < value.length then some (trZ, false, 8, V) else
 if (getP V.rd T key).2.2 ≠ 0 then some (trZ, false, (getP V.rd T key).2.2, V) else
 if (storeP V key value).1 ≠ 0 then some (trZ, false, (storeP V key value).1, V) else
 match putP (storeP V key value).2.1 (addP (storeP V key value).2.1) f (storeP V key value).2.2 T with
 | none => none
 | some r => some (if r.2.2 ≠ 0 then (trZ, false, r.2.2, V) else (r.2.1, false, 0, r.1))
theorem putL_lt {key : Bys} {new : It} {r : Va × Tr × Int} : ∀ {f : Nat} {V : Va} {T : Tr} {n : Int}, V.Ok → putL key (addP new) f V T n = some r → Lt V (20 * f + 2) r.1
 | 0, V, T, n, _, h => by rw [putL] at h; cases h
 | f + 1, V, T, n, hok, h => by
  rw [putL] at h
  split at h
  ·cases h; exact (Lt.refl hok).mono (by omega)
  split at h
  ·cases h; exact (Lt.add hok _ _ _ _).mono (by omega)
  have hd := Lt.down hok n (by assumption) key
  split at h
  ·cases h; exact hd.mono (by omega)
  exact (hd.trans (putL_lt hd.ok h)).mono (by omega)
theorem putP_lt {new : It} {r : Va × Tr × Int} {f : Nat} {V : Va} {T : Tr} (hok : V.Ok) (h : putP new (addP new) f V T = some r) : Lt V (20 * f + 23) r.1 := by
 unfold putP at h
 split at h
 ·cases h; exact (Lt.make hok _).mono (by omega)
 have hr := Lt.root hok T
 split at h
 ·cases h; exact hr.mono (by omega)
 exact (hr.trans (putL_lt hr.ok h)).mono (by omega)
theorem store_it {V : Va} {key value : Bys} (h : key.length ≤ 24) : Small (storeP V key value).2.1.key ∧ Small (storeP V key value).2.1.value := by
 unfold storeP Small itZ
 split
 ·simp
 split
 ·simp
 split
 ·dsimp only; omega
 split
 ·simp
 dsimp only; simp; omega
theorem store_err {V : Va} {key value : Bys} (h : (storeP V key value).1 ≠ 0) : (storeP V key value).2.2 = V := by
 by_cases h1 : ¬ (1 ≤ key.length ∧ key.length ≤ 24)
 ·simp only [storeP, if_pos h1]
 by_cases h2 : 3840 < value.length
 ·simp only [storeP, if_neg h1, if_pos h2]
 by_cases h3 : value.length ≤ 32
 ·simp only [storeP, if_neg h1, if_neg h2, if_pos h3] at h; exact absurd rfl h
 by_cases h4 : (storeG value ((value.length - 1) / 480 + 1) V 0).1 ≠ 0
 ·simp only [storeP, if_neg h1, if_neg h2, if_neg h3, if_pos h4]
 simp only [storeP, if_neg h1, if_neg h2, if_neg h3, if_neg h4] at h; exact absurd rfl h
section
variable {G : Gh} {L R : List Assn} {w : World}
theorem ct_put_Put_1 {vq b10 b4 b11 b8 b9 : Nat} {Y : Va} {er mk : Int} {T : Tr} {wz : Bool} (hw : Sat G (vaA vq Y :: blk b10 [.int .i64 er] 41 :: blk b4 [.pointer (some ⟨vq, 0, none⟩)] 28 :: blk b11 [.int .i64 mk] 3 :: blk b8 (treeC T) 62 :: blk b9 [.bool wz] 4 :: L) w) (hok : Y.Ok) (hsz : Y.sz ≤ 1000000000000000) (hmk : Y.vf ≤ mk ∧ mk ≤ Y.mark) :
  Defd Tryz.prog 43 #[.pointer (some ⟨b10, 0, none⟩), .pointer (some ⟨b4, 0, none⟩), .pointer (some ⟨b11, 0, none⟩), .pointer (some ⟨b8, 0, none⟩), .pointer (some ⟨b9, 0, none⟩)] w (fun r w' =>
   (er ≠ 0 ∧ Sat G (vaA vq (Y.popN (Y.mark - mk).toNat) :: blk b10 [.int .i64 er] 41 :: blk b4 [.pointer (some ⟨vq, 0, none⟩)] 28 :: blk b11 [.int .i64 mk] 3 :: blk b8 (treeC trZ) 62 :: blk b9 [.bool false] 4 :: L) w') ∨
   (er = 0 ∧ Sat G (vaA vq Y :: blk b10 [.int .i64 er] 41 :: blk b4 [.pointer (some ⟨vq, 0, none⟩)] 28 :: blk b11 [.int .i64 mk] 3 :: blk b8 (treeC T) 62 :: blk b9 [.bool wz] 4 :: L) w')) := by
 refine defd_of_x (args := [_, _, _, _, _]) Tryz.func43 rfl Tryz.ntmps43 rfl rfl ?_
 refine z2 ?_
 refine lD one_api_Errno hw ?_
 refine z2 ?_
 refine x_if rfl (fun h1 => ?_) (fun h1 => ?_)
 ·
  refine z2 ?_
  refine lD one_p_vault_Vault hw ?_
  refine lD one_int hw ?_
  refine x_call rfl rfl trivial cal_vault_Vault_Undo rfl (ct_vault_Vault_Undo hw hok hsz) rfl (fun w v9 hv => ?_)
  obtain ⟨-, -, rfl, hw⟩ := hv.resolve_left (fun h => h.1 hmk)
  refine z2 ?_
  refine x_build (v := .agg #[.int .i64 0, .int .i64 0, .int .i64 0]) rfl rfl trivial rfl (fun w => by kernel_rfl) ?_
  refine x_stN (cs := treeC trZ) (l' := treeC trZ) rfl trivial rfl rfl many_api_Tree rfl (by intro u hu; simp [treeC] at hu; rcases hu with rfl | rfl | rfl <;> rfl) hw pK (by simp [treeC]) rfl rfl (fun w hw => ?_)
  refine x_st1 (l' := [.bool false]) rfl trivial rfl rfl one_bool rfl hw pK rfl rfl rfl (fun w hw => ?_)
  refine xl_nil ?_
  exact endD0 rfl rfl (.inl ⟨h1, hw.b [vaA vq _, blk b10 _ _, blk b4 _ _, blk b11 _ _, blk b8 _ _, blk b9 _ _]⟩)
 refine x_skip ?_
 exact endD0 rfl rfl (.inr ⟨Decidable.not_not.1 h1, hw⟩)
theorem ct_put_Put {vq f : Nat} {V : Va} {T : Tr} {kv vv : Value} {key value : Bys} {res : Tr × Bool × Int × Va} (hw : Sat G (vaA vq V :: L) w) (hok : V.Ok) (hsz : V.sz + 20 * f ≤ 999999999000) (kk : Knows L (SlB kv key)) (kl : Knows L (SlB vv value)) (hh : 0 ≤ T.height ∧ T.height ≤ 1000000) (hT : 0 ≤ T.items ∧ T.items ≤ 1000000000000) (hnew : (getP V.rd T key).2.1 = false) (hres : putO f V T key value = some res) :
  Calls Tryz.prog 19 #[.pointer (some ⟨vq, 0, none⟩), .agg (treeC T).toArray, kv, vv] w (Ret fun r w' => r = .tuple #[.agg (treeC res.1).toArray, .bool res.2.1, .int .i64 res.2.2.1] ∧ Sat G (vaA vq res.2.2.2 :: L) w') := by
 obtain ⟨ka, kc, rfl⟩ := (kk.at hw.tail).form
 obtain ⟨la, lc, rfl⟩ := (kl.at hw.tail).form
 have hvf := hok.vf
 have hpf := hok.pf
 refine calls_of_x (args := [_, _, _, _]) Tryz.func19 rfl Tryz.ntmps19 rfl rfl ?_
 refine z2 ?_
 refine x_box rfl rfl trivial rfl rfl hw rfl (fun w b4 hw => ?_)
 refine x_box rfl rfl trivial rfl rfl hw rfl (fun w b5 hw => ?_)
 refine x_alloc rfl rfl trivial z_api_Tree hw rfl (fun w b8 hw => ?_)
 refine x_alloc rfl rfl trivial z_bool hw rfl (fun w b9 hw => ?_)
 refine x_alloc rfl rfl trivial z_api_Errno hw rfl (fun w b10 hw => ?_)
 refine z9 ?_
 refine xl_and (l1 := [4, 5, 6, 7]) (l2 := [8]) rfl (d := 22) (¬ (1 ≤ key.length ∧ key.length ≤ 24)) rfl ?_ ?_
 ·
  refine xl_split (d := 18) rfl (fun h1 => ?_) (fun h1 => ?_)
  ·
   refine z5 ?_
   refine cQ ?_
   first | (symm; rw [decide_eq_true_eq]; omega) | (refine decide_eq_decide.2 ?_; omega)
  refine z5 ?_
  refine cQ ?_
  first | (symm; rw [decide_eq_true_eq]; omega) | (refine decide_eq_decide.2 ?_; omega)
 refine z2 ?_
 refine x_if rfl (fun h2 => ?_) (fun h2 => ?_)
 ·
  have e : some res = some (trZ, false, 7, V) := by rw [← hres]; unfold putO; rw [if_pos h2]
  cases e
  refine z2 ?_
  refine x_build (v := .agg #[.int .i64 0, .int .i64 0, .int .i64 0]) rfl rfl trivial rfl (fun w => by kernel_rfl) ?_
  refine x_stN (cs := treeC trZ) (l' := treeC trZ) rfl trivial rfl rfl many_api_Tree rfl (by intro u hu; simp [treeC] at hu; rcases hu with rfl | rfl | rfl <;> rfl) hw pK (by simp [treeC]) rfl rfl (fun w hw => ?_)
  refine x_st1 (l' := [.bool false]) rfl trivial rfl rfl one_bool rfl hw pK rfl rfl rfl (fun w hw => ?_)
  refine x_st1 (l' := [.int .i64 7]) rfl trivial rfl rfl one_api_Errno rfl hw pK rfl rfl rfl (fun w hw => ?_)
  refine z2 ?_
  refine end3 rfl rfl ⟨_, rfl, (Loads.blkA (l := treeC trZ) many_api_Tree hw pK rfl)⟩ ⟨_, rfl, (Loads.blk1 (v := .bool false) one_bool hw pK rfl)⟩ ⟨_, rfl, (Loads.blk1 (v := .int .i64 7) one_api_Errno hw pK rfl)⟩ ⟨rfl, ?_⟩
  exact (hw.b [blk b10 _ _, blk b9 _ _, blk b8 _ _, blk b5 _ _, blk b4 _ _]).tail.tail.tail.tail.tail
 have hk24 := Decidable.not_not.1 h2
 refine z7 ?_
 refine x_if rfl (fun h3 => ?_) (fun h3 => ?_)
 ·
  have e : some res = some (trZ, false, 8, V) := by rw [← hres]; unfold putO; rw [if_neg h2, if_pos (by omega)]
  cases e
  refine z2 ?_
  refine x_build (v := .agg #[.int .i64 0, .int .i64 0, .int .i64 0]) rfl rfl trivial rfl (fun w => by kernel_rfl) ?_
  refine x_stN (cs := treeC trZ) (l' := treeC trZ) rfl trivial rfl rfl many_api_Tree rfl (by intro u hu; simp [treeC] at hu; rcases hu with rfl | rfl | rfl <;> rfl) hw pK (by simp [treeC]) rfl rfl (fun w hw => ?_)
  refine x_st1 (l' := [.bool false]) rfl trivial rfl rfl one_bool rfl hw pK rfl rfl rfl (fun w hw => ?_)
  refine x_st1 (l' := [.int .i64 8]) rfl trivial rfl rfl one_api_Errno rfl hw pK rfl rfl rfl (fun w hw => ?_)
  refine z2 ?_
  refine end3 rfl rfl ⟨_, rfl, (Loads.blkA (l := treeC trZ) many_api_Tree hw pK rfl)⟩ ⟨_, rfl, (Loads.blk1 (v := .bool false) one_bool hw pK rfl)⟩ ⟨_, rfl, (Loads.blk1 (v := .int .i64 8) one_api_Errno hw pK rfl)⟩ ⟨rfl, ?_⟩
  exact (hw.b [blk b10 _ _, blk b9 _ _, blk b8 _ _, blk b5 _ _, blk b4 _ _]).tail.tail.tail.tail.tail
 have hv3840 : value.length ≤ 3840 := by omega
 refine z3 ?_
 refine lD (v := .pointer (some ⟨vq, 0, none⟩)) one_p_vault_Vault hw ?_
 refine lA (l := treeC T) many_api_Tree hw ?_
 refine z1 ?_
 refine x_call rfl rfl trivial cal_walk_Get rfl (ct_walk_Get (t := T) (key := key) (hw.b [vaA vq V]) hok (kk.of sF) (by omega)) rfl (fun w v33 hv => ?_)
 obtain ⟨gv, rfl, hw⟩ := hv
 obtain ⟨g, hg⟩ : ∃ g, g = getP V.rd T key := ⟨_, rfl⟩
 rw [← hg] at hnew hw
 rw [← hg, hnew]
 refine z4 ?_
 refine x_st1 (l' := [.bool false]) rfl trivial rfl rfl one_bool rfl hw pK rfl rfl rfl (fun w hw => ?_)
 refine x_st1 (l' := [.int .i64 g.2.2]) rfl trivial rfl rfl one_api_Errno rfl hw pK rfl rfl rfl (fun w hw => ?_)
 refine z4 ?_
 refine lD (v := .int .i64 g.2.2) one_api_Errno hw ?_
 refine z2 ?_
 refine x_if rfl (fun h4 => ?_) (fun h4 => ?_)
 ·
  have e : some res = some (trZ, false, g.2.2, V) := by rw [← hres, hg]; unfold putO; rw [if_neg h2, if_neg (by omega), if_pos (by rw [← hg]; exact h4)]
  cases e
  refine x_seq ?_
  refine x_draw [0, 1, 2, 3, 4] mixed (by kernel_rfl) ?_
  replace hw := hw.drawn (w.drawn + 1)
  refine x_build (v := .agg #[.int .i64 0, .int .i64 0, .int .i64 0]) rfl rfl trivial rfl (fun w => by kernel_rfl) ?_
  refine lD (v := .int .i64 g.2.2) one_api_Errno hw ?_
  refine x_stNP (cs := treeC trZ) (l' := treeC trZ) rfl trivial rfl rfl many_api_Tree rfl (by intro u hu; simp [treeC] at hu; rcases hu with rfl | rfl | rfl <;> rfl) hw pK (by simp [treeC]) rfl (fun w hw q' hq => ?_) (fun w hw => ?_)
  ·
   have hq := pend_mem (l := [1]) (by kernel_rfl) hq
   simp only [List.mem_cons, List.not_mem_nil, or_false] at hq
   subst hq
   exact chk_ld rfl rfl rfl (Loads.blk1 (v := .int .i64 g.2.2) one_api_Errno hw pK rfl)
  refine x_st1P (l' := [.bool false]) rfl trivial rfl rfl one_bool rfl hw pK rfl rfl (fun w hw q' hq => ?_) (fun w hw => ?_)
  ·
   have hq := pend_mem (l := [1]) (by kernel_rfl) hq
   simp only [List.mem_cons, List.not_mem_nil, or_false] at hq
   subst hq
   exact chk_ld rfl rfl rfl (Loads.blk1 (v := .int .i64 g.2.2) one_api_Errno hw pK rfl)
  refine x_st1 (l' := [.int .i64 g.2.2]) rfl trivial rfl rfl one_api_Errno rfl hw pK rfl rfl (by kernel_rfl) (fun w hw => ?_)
  refine z2 ?_
  refine end3 rfl rfl ⟨_, rfl, (Loads.blkA (l := treeC trZ) many_api_Tree hw pK rfl)⟩ ⟨_, rfl, (Loads.blk1 (v := .bool false) one_bool hw pK rfl)⟩ ⟨_, rfl, (Loads.blk1 (v := .int .i64 g.2.2) one_api_Errno hw pK rfl)⟩ ⟨rfl, ?_⟩
  exact (hw.b [blk b10 _ _, blk b9 _ _, blk b8 _ _, blk b5 _ _, blk b4 _ _, row 5 1 gv _ _]).tail.tail.tail.tail.tail.tail
 have hg0 : g.2.2 = 0 := Decidable.not_not.1 h4
 rw [hg0] at hw
 refine z3 ?_
 refine lD (v := .pointer (some ⟨vq, 0, none⟩)) one_p_vault_Vault hw ?_
 refine x_call rfl rfl trivial cal_vault_Vault_Mark rfl (ct_vault_Vault_Mark (hw.b [vaA vq V]) ⟨hvf, by unfold Va.sz at hsz; omega⟩) rfl (fun w v42 hv => ?_)
 obtain ⟨rfl, hw⟩ := hv
 refine x_alloc rfl rfl trivial z_int hw rfl (fun w b11 hw => ?_)
 refine x_st1 (l' := [.int .i64 V.mark]) rfl trivial rfl rfl one_int rfl hw pK rfl rfl rfl (fun w hw => ?_)
 refine z2 ?_
 refine x_defer (fs := 0) (fn := .func 43) (first := #[]) (captured := #[.pointer (some ⟨b10, 0, none⟩), .pointer (some ⟨b4, 0, none⟩), .pointer (some ⟨b11, 0, none⟩), .pointer (some ⟨b8, 0, none⟩), .pointer (some ⟨b9, 0, none⟩)]) (hm := rfl) rfl ?_
 refine x_mkf (v1 := #[]) (v2 := #[.pointer (some ⟨b10, 0, none⟩), .pointer (some ⟨b4, 0, none⟩), .pointer (some ⟨b11, 0, none⟩), .pointer (some ⟨b8, 0, none⟩), .pointer (some ⟨b9, 0, none⟩)]) rfl rfl trivial (by intro z hz; simp at hz; rcases hz with rfl | rfl | rfl | rfl | rfl <;> exact ⟨_, rfl⟩) (by simp) (by simp only [List.map_toArray, List.map_cons, List.map_nil]; rfl) ?_
 refine xl_nil ?_
 refine ⟨rfl, ?_⟩
 refine z2 ?_
 refine lD (v := .pointer (some ⟨vq, 0, none⟩)) one_p_vault_Vault hw ?_
 refine lA (l := treeC T) many_api_Tree hw ?_
 refine lD (v := .bool false) one_bool hw ?_
 refine x_build (v := .agg (puC vq T ⟨itZ, .slice none 0 0, .slice none 0 0⟩ false).toArray) rfl rfl trivial rfl (fun w => by kernel_rfl) ?_
 refine x_box rfl rfl trivial rfl rfl hw rfl (fun w b48 hw => ?_)
 refine z5 ?_
 refine lD (v := .pointer (some ⟨vq, 0, none⟩)) one_p_vault_Vault hw ?_
 refine z2 ?_
 refine x_call rfl rfl trivial cal_blob_Store rfl (ct_blob_Store (key := key) (value := value) (hw.b [vaA vq V]) hok (by omega) (kk.of sF) (kl.of sF) (by unfold Small; omega) (by unfold Small; omega)) rfl (fun w v54 hv => ?_)
 obtain ⟨x', rfl, hx', hw⟩ := hv
 have hsl := store_lt hok key value
 have hss := hsl.sz
 have hso := hsl.ok
 have hsi := store_it (V := V) (value := value) hk24.2
 have hse := store_err (V := V) (key := key) (value := value)
 obtain ⟨st, hst⟩ : ∃ st, st = storeP V key value := ⟨_, rfl⟩
 rw [← hst] at hw hx' hss hso hsi hse hsl
 rw [← hst]
 have hx1 : Ones x'.cells := by
  have h0 := hw.b [both (itParts x')]
  have h1 := h0.both_out
  obtain ⟨a1, c1, h2⟩ := row_form h1
  obtain ⟨a2, c2, h3⟩ := row_form h1.tail
  intro u hu
  simp [ItV.cells, h2, h3] at hu
  rcases hu with rfl | rfl | rfl | rfl <;> rfl
 refine z5 ?_
 refine x_stN (cs := x'.cells) (l' := puC vq T x' false) rfl trivial rfl rfl many_api_Item rfl hx1 hw pK (by simp [puC, ItV.cells]) rfl rfl (fun w hw => ?_)
 refine x_st1 (l' := [.int .i64 st.1]) rfl trivial rfl rfl one_api_Errno rfl hw pK rfl rfl rfl (fun w hw => ?_)
 refine z4 ?_
 refine lD (v := .int .i64 st.1) one_api_Errno hw ?_
 refine z2 ?_
 refine x_if rfl (fun h5 => ?_) (fun h5 => ?_)
 ·
  have e : some res = some (trZ, false, st.1, V) := by rw [← hres, hst]; unfold putO; rw [if_neg h2, if_neg (by omega), if_neg (by rw [← hg]; exact h4), if_pos (by rw [← hst]; exact h5)]
  cases e
  rw [hse h5] at hw
  refine x_seq ?_
  refine x_draw [0, 1, 2, 3, 4, 5] mixed (by kernel_rfl) ?_
  replace hw := hw.drawn (w.drawn + 1)
  refine lA (l := [.int .i64 0, .int .i64 0, .int .i64 0]) many_api_Tree hw ?_
  refine lD (v := .bool false) one_bool hw ?_
  refine lD (v := .int .i64 st.1) one_api_Errno hw ?_
  refine x_stNP (cs := treeC trZ) (l' := treeC trZ) rfl trivial rfl rfl many_api_Tree rfl (by intro u hu; simp [treeC] at hu; rcases hu with rfl | rfl | rfl <;> rfl) hw pK (by simp [treeC]) rfl (fun w hw q' hq => ?_) (fun w hw => ?_)
  ·
   have hq := pend_mem (l := [2, 1]) (by kernel_rfl) hq
   simp only [List.mem_cons, List.not_mem_nil, or_false] at hq
   rcases hq with rfl | rfl
   ·exact chk_ld rfl rfl rfl (Loads.blk1 (v := .int .i64 st.1) one_api_Errno hw pK rfl)
   exact chk_ld rfl rfl rfl (Loads.blk1 (v := .bool false) one_bool hw pK rfl)
  refine x_st1P (l' := [.bool false]) rfl trivial rfl rfl one_bool rfl hw pK rfl rfl (fun w hw q' hq => ?_) (fun w hw => ?_)
  ·
   have hq := pend_mem (l := [2]) (by kernel_rfl) hq
   simp only [List.mem_cons, List.not_mem_nil, or_false] at hq
   subst hq
   exact chk_ld rfl rfl rfl (Loads.blk1 (v := .int .i64 st.1) one_api_Errno hw pK rfl)
  refine x_st1 (l' := [.int .i64 st.1]) rfl trivial rfl rfl one_api_Errno rfl hw pK rfl rfl (by kernel_rfl) (fun w hw => ?_)
  refine z2 ?_
  have hz := hw.b [vaA vq V, blk b10 _ _, blk b4 _ _, blk b11 _ _, blk b8 _ _, blk b9 _ _]
  refine bodyEnd_leave rfl ?_
  refine leave_call cal_put_Put_1 (ct_put_Put_1 hz hok (by omega) ⟨by unfold Va.mark; omega, by omega⟩) (fun v w hv => ?_)
  obtain ⟨-, hw⟩ := hv.resolve_right (fun h => h5 h.1)
  rw [show (V.mark - V.mark).toNat = 0 by omega, show V.popN 0 = V from rfl] at hw
  refine leave3 rfl ⟨_, rfl, (Loads.blkA (l := treeC trZ) many_api_Tree hw pK rfl)⟩ ⟨_, rfl, (Loads.blk1 (v := .bool false) one_bool hw pK rfl)⟩ ⟨_, rfl, (Loads.blk1 (v := .int .i64 st.1) one_api_Errno hw pK rfl)⟩ ⟨rfl, ?_⟩
  exact (hw.b [blk b10 _ _, blk b4 _ _, blk b11 _ _, blk b8 _ _, blk b9 _ _, both (itParts x'), blk b48 _ _, row 5 1 gv _ _, blk b5 _ _]).tail.tail.tail.tail.tail.tail.tail.tail.tail
 have h5 : st.1 = 0 := Decidable.not_not.1 h5
 rw [h5] at hw
 have e : putO f V T key value = match putP st.2.1 (addP st.2.1) f st.2.2 T with
   | none => none
   | some r => some (if r.2.2 ≠ 0 then (trZ, false, r.2.2, V) else (r.2.1, false, 0, r.1)) := by
  unfold putO; rw [if_neg h2, if_neg (by omega), if_neg (by rw [← hg]; exact h4), if_neg (by rw [← hst]; omega), ← hst]
 rw [e] at hres
 obtain ⟨r, hr⟩ : ∃ r, putP st.2.1 (addP st.2.1) f st.2.2 T = some r := by
  cases h : putP st.2.1 (addP st.2.1) f st.2.2 T with
  | none => rw [h] at hres; cases hres
  | some r => exact ⟨r, rfl⟩
 rw [hr] at hres
 have hres := Option.some.inj hres
 rw [← hx'] at hr
 have hpl := hsl.trans (putP_lt hso hr)
 have hpu := hpl.undo
 have hps := hpl.sz
 have hpo := hpl.ok
 have hxo : ∀ R, x'.Ok (row 5 1 x'.kv x'.it.key.length (bys x'.it.key) :: row 5 1 x'.vv x'.it.value.length (bys x'.it.value) :: R) := fun R =>
  ⟨rowB rfl .here, rowB rfl (.there .here), by rw [hx']; exact hsi.1, by rw [hx']; exact hsi.2⟩
 have hz := (hw.b [both (itParts x')]).both_out
 simp only [itParts, List.cons_append, List.nil_append] at hz
 clear hw
 have hw := hz
 clear hz
 refine z4 ?_
 refine x_mkf (v1 := #[.pointer (some ⟨b48, 0, none⟩)]) (v2 := #[]) rfl rfl trivial (by intro z hz; simp at hz; subst hz; exact ⟨_, rfl⟩) (by simp only [List.map_toArray, List.map_cons, List.map_nil]; rfl) (by simp) ?_
 refine z5 ?_
 refine lD (v := .bool false) one_bool hw ?_
 refine xl_nil ?_
 refine x_cond_false rfl ?_
 refine z5 ?_
 refine x_call rfl rfl trivial cal_put_putter_put rfl (ct_put_putter_put (f := f) (lf := 46) (leaf := addP x'.it) (res := r) (x := x') (T := T) (was := false) (hw.b [vaA vq st.2.2, blk b48 _ _, row 5 1 x'.kv _ _, row 5 1 x'.vv _ _]) hso (by omega) (hxo _) hh hT cal_put_putter_add (fun hw hok hsz hx hps hT hrd => ct_put_putter_add hw hok hsz hx hps hT) hr) rfl (fun w v71 hv => ?_)
 obtain ⟨rfl, hw⟩ := hv
 refine x_st1 (l' := [.int .i64 r.2.2]) rfl trivial rfl rfl one_api_Errno rfl hw pK rfl rfl rfl (fun w hw => ?_)
 refine z2 ?_
 refine x_draw [0, 1, 2, 3, 4, 5, 6, 7, 8] mixed (by kernel_rfl) ?_
 replace hw := hw.drawn (w.drawn + 1)
 refine z3 ?_
 refine x_ld rfl rfl trivial rfl (Loads.blkN (cs := treeC r.2.1) many_api_Tree hw pK (by rfl) rfl) ?_
 refine lD (v := .bool false) one_bool hw ?_
 refine lD (v := .int .i64 r.2.2) one_api_Errno hw ?_
 refine x_stNP (cs := treeC r.2.1) (l' := treeC r.2.1) rfl trivial rfl rfl many_api_Tree rfl (by intro u hu; simp [treeC] at hu; rcases hu with rfl | rfl | rfl <;> rfl) hw pK (by simp [treeC]) rfl (fun w hw q' hq => ?_) (fun w hw => ?_)
 ·
  have hq := pend_mem (l := [5, 4]) (by kernel_rfl) hq
  simp only [List.mem_cons, List.not_mem_nil, or_false] at hq
  rcases hq with rfl | rfl
  ·exact chk_ld rfl rfl rfl (Loads.blk1 (v := .int .i64 r.2.2) one_api_Errno hw pK rfl)
  exact chk_ld rfl rfl rfl (Loads.blk1 (v := .bool false) one_bool hw pK rfl)
 refine x_st1P (l' := [.bool false]) rfl trivial rfl rfl one_bool rfl hw pK rfl rfl (fun w hw q' hq => ?_) (fun w hw => ?_)
 ·
  have hq := pend_mem (l := [5]) (by kernel_rfl) hq
  simp only [List.mem_cons, List.not_mem_nil, or_false] at hq
  subst hq
  exact chk_ld rfl rfl rfl (Loads.blk1 (v := .int .i64 r.2.2) one_api_Errno hw pK rfl)
 refine x_st1 (l' := [.int .i64 r.2.2]) rfl trivial rfl rfl one_api_Errno rfl hw pK rfl rfl (by kernel_rfl) (fun w hw => ?_)
 refine z2 ?_
 have hz := hw.b [vaA vq r.1, blk b10 _ _, blk b4 _ _, blk b11 _ _, blk b8 _ _, blk b9 _ _]
 refine bodyEnd_leave rfl ?_
 refine leave_call cal_put_Put_1 (ct_put_Put_1 hz hpo (by omega) ⟨hpu.2.1, hpu.2.2⟩) (fun v w hv => ?_)
 by_cases h7 : r.2.2 = 0
 ·rw [if_neg (not_not_intro h7)] at hres
  subst hres
  obtain ⟨-, hw⟩ := hv.resolve_left (fun h => h.1 h7)
  rw [h7] at hw
  refine leave3 rfl ⟨_, rfl, (Loads.blkA (l := treeC r.2.1) many_api_Tree hw pK rfl)⟩ ⟨_, rfl, (Loads.blk1 (v := .bool false) one_bool hw pK rfl)⟩ ⟨_, rfl, (Loads.blk1 (v := .int .i64 0) one_api_Errno hw pK rfl)⟩ ⟨rfl, ?_⟩
  exact (hw.b [blk b10 _ _, blk b4 _ _, blk b11 _ _, blk b8 _ _, blk b9 _ _, blk b48 _ _, row 5 1 x'.kv _ _, row 5 1 x'.vv _ _, row 5 1 gv _ _, blk b5 _ _]).tail.tail.tail.tail.tail.tail.tail.tail.tail.tail
 rw [if_pos h7] at hres
 subst hres
 obtain ⟨-, hw⟩ := hv.resolve_right (fun h => h7 h.1)
 rw [hpu.1] at hw
 refine leave3 rfl ⟨_, rfl, (Loads.blkA (l := treeC trZ) many_api_Tree hw pK rfl)⟩ ⟨_, rfl, (Loads.blk1 (v := .bool false) one_bool hw pK rfl)⟩ ⟨_, rfl, (Loads.blk1 (v := .int .i64 r.2.2) one_api_Errno hw pK rfl)⟩ ⟨rfl, ?_⟩
 exact (hw.b [blk b10 _ _, blk b4 _ _, blk b11 _ _, blk b8 _ _, blk b9 _ _, blk b48 _ _, row 5 1 x'.kv _ _, row 5 1 x'.vv _ _, row 5 1 gv _ _, blk b5 _ _]).tail.tail.tail.tail.tail.tail.tail.tail.tail.tail
end
def fillL {α : Type} (l : List α) (k : Nat) (z : α) : List α := l.take k ++ List.replicate (l.length - k) z
theorem fillL_set {α : Type} {l : List α} {k : Nat} {z x : α} (h : l[k]? = some x) : (fillL l k z).set k x = fillL l (k + 1) z := by
 have hk : k < l.length := by
  rw [List.getElem?_eq_some_iff] at h; exact h.1
 unfold fillL
 rw [take_step h, List.set_append_right _ _ (by rw [List.length_take]; omega), List.length_take, Nat.min_eq_left (by omega), Nat.sub_self]
 obtain ⟨d, hd⟩ : ∃ d, l.length - k = d + 1 := ⟨l.length - k - 1, by omega⟩
 rw [hd, List.replicate_succ, List.set_cons_zero, show l.length - (k + 1) = d by omega, List.append_assoc]
 rfl
theorem fillL_all {α : Type} {l : List α} {z : α} : fillL l l.length z = l := by unfold fillL; simp
theorem fillL_zero {α : Type} {l : List α} {z : α} : fillL l 0 z = List.replicate l.length z := by unfold fillL; simp
def posL (c : List Int) : List Bool := c.map fun x => decide (0 < x)
theorem posL_at {c : List Int} {k : Nat} {x : Int} (h : c[k]? = some x) : (posL c)[k]? = some (decide (0 < x)) := by unfold posL; rw [List.getElem?_map, h]; rfl
theorem posL_len {c : List Int} : (posL c).length = c.length := by simp [posL]
def laidAll (c : List Int) (l : List (Int × Pg)) : Prop := ∀ (i : Nat) (x : Int), c[i]? = some x → 0 < x → (i : Int) + 1 ∈ l.map (·.1)
def ldOk (refs : Int) (c : List Int) (l : List (Int × Pg)) : Prop := plErr refs c = 0 ∧ ldErr c [] l = 0 ∧ laidAll c l
structure RvOk (refs : Int) (c : List Int) (l : List (Int × Pg)) (v : RvV) (S : List PgV) : Prop where
 er : v.r = refs
 ec : v.c = c
 el : v.l = posL c
 ea : v.av = .slice none 0 0
 ef : v.floor = 0
 plen : v.p.length = c.length
 ep : ∀ i : Nat, i < c.length → ∃ pg, v.p[i]? = some pg ∧ (match l.find? (fun x => x.1 == (i : Int) + 1) with | none => pg = pgZ | some x => pg.pg = x.2 ∧ pg ∈ S ∧ pg.Sm)
theorem rvx {refs : Int} {c : List Int} {ps : List PgV} {q cb cc lb lc pb pc : Nat} {av : Value} {fl : Int} {hu : Bool} (h : ps.length = c.length) {L : List Assn} :
  rvP q ⟨refs, c, .slice (some ⟨cb, 0, none⟩) c.length cc, posL c, .slice (some ⟨lb, 0, none⟩) c.length lc, ps, .slice (some ⟨pb, 0, none⟩) c.length pc, av, fl, hu⟩ L =
   blk q [.int .i64 refs, .slice (some ⟨cb, 0, none⟩) c.length cc, .slice (some ⟨lb, 0, none⟩) c.length lc, .slice (some ⟨pb, 0, none⟩) c.length pc, av, .int .i64 fl, .bool hu] 101 :: row 3 1 (.slice (some ⟨cb, 0, none⟩) c.length cc) c.length (ints c) :: row 4 1 (.slice (some ⟨lb, 0, none⟩) c.length lc) c.length (bls (posL c)) :: row 75 5 (.slice (some ⟨pb, 0, none⟩) c.length pc) c.length (ps.map PgV.cells).flatten :: L := by
 unfold rvP RvV.cells; simp only [posL_len, h]
theorem bls_set {l : List Bool} {j : Nat} {b : Bool} : (bls l).set j (.bool b) = bls (l.set j b) := by simp [bls, List.map_set]
theorem ints_set {l : List Int} {j : Nat} {b : Int} : (ints l).set j (.int .i64 b) = ints (l.set j b) := by simp [ints, List.map_set]
section
variable {P : Program} {n : Nat} {ops : Array Oper} {dr : Bool} {done r : List Nat} {K : Env → World → Prop} {e : Env} {w : World} {i d : Nat} {t s T : TypeId} {p : String} {af : Array Edge} {g : Option (Nat × Bool)} {x y : Operand} {G : Gh} {L R : List Assn}
theorem x_stNM {b o cap j z m : Nat} {cs : List Value} {rs rs' : List (List Value)} (ho : ops[i]? = some ⟨none, .store s x y, t, p, af, g⟩) (hg : Gd ops e g) (hx : ev e x = some (.pointer (some ⟨b, o, none⟩))) (hy : ev e y = some (.agg cs.toArray)) (h1 : manyB P s z = true) (hz : cs.length = z) (hv : Ones cs)
  (hw : Sat G L w) (hrz : ∀ r ∈ rs, r.length = z) (hm : rs.length = m) (hp : Pick (row T z (.slice (some ⟨b, 0, none⟩) m cap) m rs.flatten) L R) (hj : j < m) (hoj : o = j * z) (hrs : rs.set j cs = rs') (hpd : pend P ops dr done i = [])
  (h : ∀ w', Sat G (row T z (.slice (some ⟨b, 0, none⟩) m cap) m rs'.flatten :: R) w' → XL P n ops dr (i :: done) r K e w') : XL P n ops dr done (i :: r) K e w := by
 subst hm
 exact x_stNR ho hg hx hy h1 hz hv hw hrz hp hj hoj hrs hpd h
end
section
variable {G : Gh} {L R : List Assn} {w : World}
theorem ct_ref11_Load {refs : Int} {vc vl : Value} {c : List Int} {l : List (Int × PgV)} (hw : Sat G L w) (kc : Knows L (SlV vc (ints c))) (hl9 : c.length ≤ 1000000000) (kl : Knows L (SlT 6 vl (l.map numC))) (hlo : ∀ x ∈ l, x.2.Ok L) (hll : l.length ≤ 1000000000) :
  Calls Tryz.prog 33 #[.int .i64 refs, vc, vl] w (Ret fun r w' => (∃ er, er ≠ 0 ∧ ¬ ldOk refs c (pgs l) ∧ r = .tuple #[.pointer none, .int .i64 er] ∧ Sat G L w') ∨
   (ldOk refs c (pgs l) ∧ ∃ q v S, r = .tuple #[.pointer (some ⟨q, 0, none⟩), .int .i64 0] ∧ RvOk refs c (pgs l) v S ∧ v.hush = false ∧ Sat G (rvP q v (stO S :: L)) w')) := by
 obtain ⟨la, lac, h1, -, -⟩ := (kl.at hw).form
 rw [List.length_map] at h1
 subst h1
 obtain ⟨ca0, cc0, rfl⟩ := (kc.at hw).form
 rw [ints_length]
 rw [ints_length] at kc
 refine calls_of_x (args := [_, _, _]) Tryz.func33 rfl Tryz.ntmps33 rfl rfl ?_
 refine z10 ?_
 refine x_call rfl rfl trivial cal_ref11_New rfl (ct_ref11_New hw) rfl (fun w v20 hv => ?_)
 have hv2 : ∃ (pp : Option Addr) (er : Int), v20 = .tuple #[.pointer pp, .int .i64 er] ∧ ((er = 1 ∧ ¬ (1 ≤ (c.length : Int) ∧ (c.length : Int) ≤ 65536 ∧ 2 ≤ refs ∧ refs < 65536) ∧ Sat G L w) ∨ (er = 0 ∧ (1 ≤ (c.length : Int) ∧ (c.length : Int) ≤ 65536 ∧ 2 ≤ refs ∧ refs < 65536) ∧ ∃ q cv lv pv, pp = some ⟨q, 0, none⟩ ∧ Sat G (rvP q (newRv refs c.length cv lv pv) L) w)) := by
  rcases hv with ⟨h1, h2, h3⟩ | ⟨h1, q, cv, lv, pv, h2, h3⟩
  ·exact ⟨none, 1, h2, .inl ⟨rfl, h1, h3⟩⟩
  exact ⟨some ⟨q, 0, none⟩, 0, h2, .inr ⟨rfl, h1, q, cv, lv, pv, rfl, by simpa using h3⟩⟩
 obtain ⟨pp, er, rfl, hv2⟩ := hv2
 refine z12 ?_
 refine x_if rfl (fun h1 => ?_) (fun h1 => ?_)
 ·
  refine z7 ?_
  exact end2 rfl rfl rfl rfl (by
 obtain ⟨rfl, hno, hw⟩ := hv2.resolve_right (fun h => h1 h.1)
 exact .inl ⟨1, by decide, (fun h => by have h2 := h.1; unfold plErr at h2; rw [if_pos hno] at h2; cases h2), rfl, hw⟩)
 obtain ⟨rfl, hsz, q, cv, lv, pv, rfl, hw⟩ := hv2.resolve_left (fun h => h1 (by rw [h.1]; decide))
 have hN : 1 ≤ c.length ∧ c.length ≤ 65536 := by omega
 have hpl : plErr refs c = if ¬ (∀ x ∈ c, 0 ≤ x ∧ x ≤ refs) then 13 else 0 := by unfold plErr; rw [if_neg (fun h => h hsz)]
 have hw1 : Sat G (blk q [.int .i64 refs, cv, lv, pv, .slice none 0 0, .int .i64 0, .bool false] 101 :: row 3 1 cv c.length (ints (List.replicate c.length 0)) :: row 4 1 lv c.length (bls (List.replicate c.length false)) :: row 75 5 pv c.length ((List.replicate c.length pgZ).map PgV.cells).flatten :: L) w := by
  have h := hw
  unfold rvP newRv RvV.cells at h
  simp only [List.length_replicate] at h
  exact h
 clear hw
 obtain ⟨ca, cc, rfl⟩ := row_form (hw1.pick (A := row 3 1 cv _ _) (.there .here))
 obtain ⟨laa, lc, rfl⟩ := row_form (hw1.pick (A := row 4 1 lv _ _) (.there (.there .here)))
 obtain ⟨pa, pc, rfl⟩ := row_form (hw1.pick (A := row 75 5 pv _ _) (.there (.there (.there .here))))
 obtain ⟨-, cb, -, rfl, -⟩ := row_some (hw1.pick (A := row 3 1 _ _ _) (.there .here)) (by omega)
 obtain ⟨-, lb, -, rfl, -⟩ := row_some (hw1.pick (A := row 4 1 _ _ _) (.there (.there .here))) (by omega)
 obtain ⟨-, pb, -, rfl, -⟩ := row_some (hw1.pick (A := row 75 5 _ _ _) (.there (.there (.there .here)))) (by omega)
 rw [← fillL_zero (l := c), show List.replicate c.length false = fillL (posL c) 0 false by rw [fillL_zero, posL_len]] at hw1
 have hw := hw1
 clear hw1
 refine z11 ?_
 have hw := row_nil hw 4 1
 refine x_loop (fun m e w => ∃ (k : Nat) (lz : Value), k ≤ c.length ∧ m = c.length - k ∧ e = [(0, .int .i64 refs), (1, .slice ca0 c.length cc0), (2, .slice la l.length lac), (8, .pointer (some ⟨q, 0, none⟩)), (10, lz), (11, .int .i64 k)] ∧ (∀ x ∈ c.take k, 0 ≤ x ∧ x ≤ refs) ∧ Sat G (row 4 1 lz k (bls (List.replicate k false)) :: blk q [.int .i64 refs, .slice (some ⟨cb, 0, none⟩) c.length cc, .slice (some ⟨lb, 0, none⟩) c.length lc, .slice (some ⟨pb, 0, none⟩) c.length pc, .slice none 0 0, .int .i64 0, .bool false] 101 :: row 3 1 (.slice (some ⟨cb, 0, none⟩) c.length cc) c.length (ints (fillL c k 0)) :: row 4 1 (.slice (some ⟨lb, 0, none⟩) c.length lc) c.length (bls (fillL (posL c) k false)) :: row 75 5 (.slice (some ⟨pb, 0, none⟩) c.length pc) c.length ((List.replicate c.length pgZ).map PgV.cells).flatten :: L) w)
  (m := c.length) (e₀ := [(0, .int .i64 refs), (1, .slice ca0 c.length cc0), (2, .slice la l.length lac), (8, .pointer (some ⟨q, 0, none⟩)), (10, .slice none 0 0), (11, .int .i64 (0 : Nat))]) sB
  ⟨0, _, Nat.zero_le _, rfl, rfl, (fun x hx => by simp at hx), hw⟩ ?_
 rintro m e w ⟨k, lz, hk, rfl, rfl, hr, hw⟩
 refine z8 ?_
 refine x_if rfl (fun h2 => ?_) (fun h2 => ?_)
 ·
  have hk' : k < c.length := by omega
  obtain ⟨x, hx⟩ : ∃ x, c[k]? = some x := ⟨_, List.getElem?_eq_getElem hk'⟩
  obtain ⟨bb, oo, rfl⟩ := ((kc.of sF).at hw).nn (by rw [ints_length]; omega)
  obtain ⟨az, cz, rfl⟩ := row_form hw
  refine z8 ?_
  refine x_idx1 rfl rfl trivial U_sl_int sz_int rfl rfl ⟨by omega, by omega⟩ ?_
  refine x_ld rfl rfl trivial rfl (Loads.one one_int (((kc.of sF).at hw).at (by rw [Int.toNat_natCast]; exact ints_of hx))) ?_
  refine z2 ?_
  refine xl_and (l1 := [6, 7, 8, 9, 10, 11, 12]) (l2 := []) rfl (d := 44) (x < 0 ∨ refs < x) rfl ?_ ?_
  ·
   refine xl_split (d := 37) rfl (fun h3 => ?_) (fun h3 => ?_)
   ·
    refine z8 ?_
    refine cQ ?_
    exact dC
   refine z2 ?_
   refine x_idx1 rfl rfl ⟨_, rfl, rfl⟩ U_sl_int sz_int rfl rfl ⟨by omega, by omega⟩ ?_
   refine x_ld rfl rfl ⟨_, rfl, rfl⟩ rfl (Loads.one one_int (((kc.of sF).at hw).at (by rw [Int.toNat_natCast]; exact ints_of hx))) ?_
   refine z4 ?_
   refine cQ ?_
   exact dC
  refine xl_nil ?_
  refine x_if rfl (fun h4 => ?_) (fun h4 => ?_)
  ·
   refine z6 ?_
   exact end2 rfl rfl rfl rfl (.inl (by
 have hbad : ¬ (∀ x ∈ c, 0 ≤ x ∧ x ≤ refs) := fun h => by have := h x (List.mem_of_getElem? hx); omega
 exact ⟨13, by decide, (fun h => by have h2 := h.1; rw [hpl, if_pos hbad] at h2; cases h2), rfl, (hw.b [row 4 1 (.slice az k cz) _ _, blk q _ _, row 3 _ _ _ _, row 4 1 (.slice (some ⟨lb, 0, none⟩) _ _) _ _, row 75 _ _ _ _]).tail.tail.tail.tail.tail⟩))
  refine z2 ?_
  refine x_draw [0, 1, 2, 3, 4, 5, 6, 7, 8, 9, 10] mixed (by kernel_rfl) ?_
  replace hw := hw.drawn (w.drawn + 1)
  refine z3 ?_
  refine lD (v := .slice (some ⟨cb, 0, none⟩) c.length cc) one_sl_int hw ?_
  refine z3 ?_
  refine x_idx1 rfl rfl trivial U_sl_int sz_int rfl rfl ⟨by omega, by omega⟩ ?_
  refine x_ld rfl rfl trivial rfl (Loads.one one_int (((kc.of sF).at hw).at (by rw [Int.toNat_natCast]; exact ints_of hx))) ?_
  refine x_idx1 rfl rfl trivial U_sl_int sz_int rfl rfl ⟨by omega, by omega⟩ ?_
  refine x_st1R (xs' := ints (fillL c (k + 1) 0)) (m := c.length) (j := k) rfl trivial rfl rfl one_int rfl hw pK (by omega) (by simp) (by rw [ints_set, fillL_set hx]) (by kernel_rfl) (fun w hw => ?_)
  refine z2 ?_
  refine x_draw [0, 1, 2, 3, 4, 5, 6, 7, 8, 9, 10, 11] mixed (by kernel_rfl) ?_
  replace hw := hw.drawn (w.drawn + 1)
  refine z3 ?_
  refine lD (v := .slice (some ⟨lb, 0, none⟩) c.length lc) one_sl_bool hw ?_
  refine z3 ?_
  refine x_idx1 rfl rfl trivial U_sl_int sz_int rfl rfl ⟨by omega, by omega⟩ ?_
  refine x_ld rfl rfl trivial rfl (Loads.one one_int (((kc.of sF).at hw).at (by rw [Int.toNat_natCast]; exact ints_of hx))) ?_
  refine z1 ?_
  refine x_idx1 rfl rfl trivial U_sl_bool sz_bool rfl rfl ⟨by omega, by omega⟩ ?_
  refine x_st1R (xs' := bls (fillL (posL c) (k + 1) false)) (m := c.length) (j := k) rfl trivial rfl rfl one_bool rfl hw pK (by omega) (by simp) (by rw [bls_set, fillL_set (posL_at hx)]) (by kernel_rfl) (fun w hw => ?_)
  refine z3 ?_
  refine x_bs1 (cs := [.bool false]) rfl rfl trivial U_sl_bool sz_bool zs_bool (by decide) rfl rfl rfl hw rfl (fun w b67 hw => ?_)
  refine x_app (m := k) (k := 1) (news := [.bool false]) rfl rfl trivial U_sl_bool sz_bool by_bool zs_bool rfl rfl hw pK (Rd.blk0 hw pK) rfl (by intro u hu; simp at hu; subst hu; rfl) (by simp only [maxLen]; omega) (by omega) rfl (fun w v68 hw => ?_)
  refine z7 ?_
  have e2 : bls (List.replicate (k + 1) false) = bls (List.replicate k false) ++ [.bool false] := by rw [List.replicate_succ']; simp [bls]
  refine ⟨c.length - (k + 1), by omega, [(0, _), (1, _), (2, _), (8, _), (10, _), (11, .int .i64 (k + 1 : Nat))], sB, k + 1, _, by omega, rfl, rfl, ?_, ?_⟩
  ·intro y hy
   rw [take_step hx] at hy
   rcases List.mem_append.1 hy with hy | hy
   ·exact hr y hy
   simp at hy; subst hy; omega
  rw [e2]
  exact (hw.b [blk b67 _ _, row 4 1 v68 _ _, blk q _ _, row 3 _ _ _ _, row 4 1 (.slice (some ⟨lb, 0, none⟩) _ _) _ _, row 75 _ _ _ _]).tail
 have hke : k = c.length := by omega
 subst hke
 rw [List.take_length] at hr
 rw [if_neg (not_not_intro hr)] at hpl
 rw [fillL_all, show fillL (posL c) c.length false = posL c by rw [← posL_len (c := c), fillL_all]] at hw
 obtain ⟨az, cz, rfl⟩ := row_form hw
 obtain ⟨-, zb, -, rfl, -⟩ := row_some hw (by omega)
 refine z7 ?_
 have hw := Sat.both_in (M := ([] : List PgV).map pgO) hw
 have hw := hw.b [row 4 1 (.slice (some ⟨zb, 0, none⟩) _ _) _ _, blk q _ _, row 3 _ _ _ _, row 4 1 (.slice (some ⟨lb, 0, none⟩) _ _) _ _, row 75 _ _ _ _, both _]
 refine x_loop (fun m e w => ∃ (k : Nat) (ld : List Bool) (ps S : List PgV), k ≤ l.length ∧ m = l.length - k ∧ e = [(0, .int .i64 refs), (1, .slice ca0 c.length cc0), (2, .slice la l.length lac), (8, .pointer (some ⟨q, 0, none⟩)), (10, .slice (some ⟨zb, 0, none⟩) c.length cz), (12, .int .i64 k)] ∧ (ld.length = c.length ∧ ps.length = c.length ∧ (∀ i : Nat, i < c.length → ld[i]? = some (decide ((i : Int) + 1 ∈ ((pgs l).take k).map (·.1)))) ∧ (∀ i : Nat, i < c.length → ∃ pg, ps[i]? = some pg ∧ (match ((pgs l).take k).find? (fun x => x.1 == (i : Int) + 1) with | none => pg = pgZ | some x => pg.pg = x.2 ∧ pg ∈ S ∧ pg.Sm)) ∧ ldErr c [] (pgs l) = ldErr c ((((pgs l).take k).map (·.1)).reverse) ((pgs l).drop k)) ∧ Sat G (row 4 1 (.slice (some ⟨zb, 0, none⟩) c.length cz) c.length (bls ld) :: blk q [.int .i64 refs, .slice (some ⟨cb, 0, none⟩) c.length cc, .slice (some ⟨lb, 0, none⟩) c.length lc, .slice (some ⟨pb, 0, none⟩) c.length pc, .slice none 0 0, .int .i64 0, .bool false] 101 :: row 3 1 (.slice (some ⟨cb, 0, none⟩) c.length cc) c.length (ints c) :: row 4 1 (.slice (some ⟨lb, 0, none⟩) c.length lc) c.length (bls (posL c)) :: row 75 5 (.slice (some ⟨pb, 0, none⟩) c.length pc) c.length (ps.map PgV.cells).flatten :: stO S :: L) w)
  (m := l.length) (e₀ := [(0, .int .i64 refs), (1, .slice ca0 c.length cc0), (2, .slice la l.length lac), (8, .pointer (some ⟨q, 0, none⟩)), (10, .slice (some ⟨zb, 0, none⟩) c.length cz), (12, .int .i64 (0 : Nat))]) sB
  ⟨0, List.replicate c.length false, List.replicate c.length pgZ, [], Nat.zero_le _, rfl, rfl, ⟨by simp, by simp, fun i hi => by simp [hi], fun i hi => ⟨pgZ, by simp [hi], by simp⟩, rfl⟩, hw⟩ ?_
 rintro m e w ⟨k, ld, ps, S, hk, rfl, rfl, ⟨hld, hpsl, hla, hpa, hle⟩, hw⟩
 refine z5 ?_
 refine x_len rfl rfl trivial (by kernel_rfl) U_sl_api_Numbered rfl ?_
 refine z2 ?_
 refine x_if rfl (fun h5 => ?_) (fun h5 => ?_)
 ·
  have hk' : k < l.length := by omega
  obtain ⟨x, hx⟩ : ∃ x, l[k]? = some x := ⟨_, List.getElem?_eq_getElem hk'⟩
  have hxo := hlo x (List.mem_of_getElem? hx)
  have hxr : (l.map numC)[k]? = some (numC x) := by rw [List.getElem?_map, hx]; rfl
  obtain ⟨bb, oo, rfl⟩ := ((kl.of sF).at hw).nn (by rw [List.length_map]; omega)
  rw [pgs_step hx] at hle
  simp only [ldErr, List.mem_reverse] at hle
  have hcn : ∀ n, 0 ≤ cntP c n := fun n => by
   unfold cntP
   split
   ·simp only [List.getD_eq_getElem?_getD]
    cases h : c[(n - 1).toNat]? with
    | none => simp
    | some y => exact (hr y (List.mem_of_getElem? h)).1
   omega
  refine z7 ?_
  refine x_idx rfl rfl trivial U_sl_api_Numbered sz_api_Numbered rfl rfl ⟨by omega, by omega⟩ ?_
  refine x_fldk rfl rfl trivial fo_api_Numbered_0 rfl ?_
  refine x_ld rfl rfl trivial rfl (Loads.one one_int (by
 have h := (kl.of sF).at hw
 exact SlT.cell (j := 0) h hxr rfl)) ?_
  refine z7 ?_
  refine x_call rfl rfl trivial cal_ref11_Vault_There rfl (ct_ref11_Vault_There (q := q) (v := ⟨refs, c, .slice (some ⟨cb, 0, none⟩) c.length cc, posL c, .slice (some ⟨lb, 0, none⟩) c.length lc, ps, .slice (some ⟨pb, 0, none⟩) c.length pc, .slice none 0 0, 0, false⟩) (n := x.1) (by rw [rvx hpsl]; exact hw.b [blk q _ _, row 3 _ _ _ _, row 4 1 (.slice (some ⟨lb, 0, none⟩) _ _) _ _, row 75 _ _ _ _]) hN.2) rfl (fun w v82 hv => ?_)
  obtain ⟨rfl, hw⟩ := hv
  rw [rvx hpsl] at hw
  refine x_not rfl rfl trivial rfl ?_
  refine xl_nil ?_
  refine x_cond rfl (fun h6 => ?_) (fun h6 => ?_)
  ·
   refine z6 ?_
   exact end2 rfl rfl rfl rfl (.inl (by
 have h6' : cntP c x.1 = 0 := by have := hcn x.1; simp at h6; omega
 rw [if_pos h6'] at hle
 exact ⟨15, by decide, (fun h => by have h2 := h.2.1; rw [hle] at h2; cases h2), rfl, (hw.b [row 4 1 (.slice (some ⟨zb, 0, none⟩) _ _) _ _, blk q _ _, row 3 _ _ _ _, row 4 1 (.slice (some ⟨lb, 0, none⟩) _ _) _ _, row 75 _ _ _ _, stO _]).tail.tail.tail.tail.tail.tail⟩))
  have h6' : ¬ cntP c x.1 = 0 := by have := hcn x.1; simp at h6; omega
  rw [if_neg h6'] at hle
  have hth : thereP c x.1 := by
   refine Decidable.byContradiction fun h => h6' ?_
   unfold cntP; rw [if_neg h]
  have hin : 1 ≤ x.1 ∧ x.1 ≤ (c.length : Int) := hth
  obtain ⟨j, hj⟩ : ∃ j : Nat, x.1 = (j : Int) + 1 := ⟨(x.1 - 1).toNat, by omega⟩
  have hjl : j < c.length := by omega
  have hjz : (x.1 - 1).toNat = j := by omega
  have hldj := hla j hjl
  have hzk : Knows (row 4 1 (.slice (some ⟨zb, 0, none⟩) c.length cz) c.length (bls ld) :: stO S :: L) (SlV (.slice (some ⟨zb, 0, none⟩) c.length cz) (bls ld)) := by
   have h := rowL (v := .slice (some ⟨zb, 0, none⟩) c.length cz) (c := ld) (R := stO S :: L)
   rw [hld] at h
   exact h
  rw [← hj] at hldj
  refine z7 ?_
  refine x_idx1 rfl rfl trivial U_sl_bool sz_bool rfl rfl ⟨by omega, by omega⟩ ?_
  refine x_ld rfl rfl trivial rfl (Loads.one (v := .bool (decide (x.1 ∈ ((pgs l).take k).map (·.1)))) one_bool (((hzk.of sF).at hw).at (by rw [hjz]; simp only [bls, List.getElem?_map, hldj]; rfl))) ?_
  refine xl_nil ?_
  refine x_if rfl (fun h7 => ?_) (fun h7 => ?_)
  ·
   refine z6 ?_
   exact end2 rfl rfl rfl rfl (.inl (by
 rw [if_pos (by simpa using h7)] at hle
 exact ⟨10, by decide, (fun h => by have h2 := h.2.1; rw [hle] at h2; cases h2), rfl, (hw.b [row 4 1 (.slice (some ⟨zb, 0, none⟩) _ _) _ _, blk q _ _, row 3 _ _ _ _, row 4 1 (.slice (some ⟨lb, 0, none⟩) _ _) _ _, row 75 _ _ _ _, stO _]).tail.tail.tail.tail.tail.tail⟩))
  have h7' : x.1 ∉ ((pgs l).take k).map (·.1) := by simpa using h7
  rw [if_neg h7'] at hle
  refine z5 ?_
  refine x_idx rfl rfl trivial U_sl_api_Numbered sz_api_Numbered rfl rfl ⟨by omega, by omega⟩ ?_
  refine x_fldk rfl rfl trivial fo_api_Numbered_1 rfl ?_
  refine x_ld rfl rfl trivial rfl (Loads.many many_api_Page rfl (by have h := (((kl.of sF).at hw).at hxr).drop 1; rw [Int.toNat_natCast]; exact h)) ?_
  refine x_call rfl rfl trivial cal_ref07_Check rfl (ct_ref07_Check (p := x.2) hw (hxo.of sF)) rfl (fun w v94 hv => ?_)
  obtain ⟨rfl, hw⟩ := hv
  refine z8 ?_
  refine x_if rfl (fun h8 => ?_) (fun h8 => ?_)
  ·
   refine z7 ?_
   exact end2 rfl rfl rfl rfl (.inl (by
 rw [if_pos h8] at hle
 exact ⟨checkP x.2.pg, h8, (fun h => by have h2 := h.2.1; rw [hle] at h2; exact h8 h2), rfl, (hw.b [row 4 1 (.slice (some ⟨zb, 0, none⟩) _ _) _ _, blk q _ _, row 3 _ _ _ _, row 4 1 (.slice (some ⟨lb, 0, none⟩) _ _) _ _, row 75 _ _ _ _, stO _]).tail.tail.tail.tail.tail.tail⟩))
  rw [if_neg h8] at hle
  refine z6 ?_
  refine x_idx1 rfl rfl trivial U_sl_bool sz_bool rfl rfl ⟨by omega, by omega⟩ ?_
  refine x_st1R (xs' := bls (ld.set j true)) (m := c.length) (j := j) rfl trivial rfl rfl one_bool rfl hw pK hjl (by rw [hjz]; exact Nat.zero_add _) bls_set rfl (fun w hw => ?_)
  refine xl_nil ?_
  refine x_draw [0, 1, 2, 3, 4, 5, 6, 7, 8, 9, 10, 11, 12, 13] mixed (by kernel_rfl) ?_
  replace hw := hw.drawn (w.drawn + 1)
  refine z3 ?_
  refine lD (v := .slice (some ⟨pb, 0, none⟩) c.length pc) one_sl_api_Page hw ?_
  refine z4 ?_
  refine x_idx rfl rfl trivial U_sl_api_Numbered sz_api_Numbered rfl rfl ⟨by omega, by omega⟩ ?_
  refine x_fldk rfl rfl trivial fo_api_Numbered_1 rfl ?_
  refine x_ld rfl rfl trivial rfl (Loads.many many_api_Page rfl (by have h := (((kl.of sF).at hw).at hxr).drop 1; rw [Int.toNat_natCast]; exact h)) ?_
  refine x_callP rfl rfl trivial cal_ref00_CopyPage rfl (ct_ref00_CopyPage (p := x.2) hw (hxo.of sF)) (fun w v113 hv q' hq => ?_) (fun w v113 hv => ?_)
  ·
   obtain ⟨p', rfl, hpe, hps, hw⟩ := hv
   have hq := pend_mem (l := [3]) (by kernel_rfl) hq
   simp only [List.mem_cons, List.not_mem_nil, or_false] at hq
   subst hq
   exact chk_ld rfl rfl rfl (Loads.blk1 (v := .slice (some ⟨pb, 0, none⟩) c.length pc) one_sl_api_Page hw pK rfl)
  obtain ⟨p', rfl, hpe, hps, hw⟩ := hv
  refine x_idx rfl rfl trivial U_sl_api_Page sz_api_Page rfl rfl ⟨by omega, by omega⟩ ?_
  refine x_stNM (cs := p'.cells) (rs := ps.map PgV.cells) (rs' := (ps.set j p').map PgV.cells) (m := c.length) (j := j) (z := 5) rfl trivial rfl rfl many_api_Page rfl (ones_pg (pgParts_ok hps pK) hw) hw (pgs_z ps) (by simp [hpsl]) pK hjl (by rw [hjz]; exact Nat.zero_add _) (by rw [List.map_set]) (by kernel_rfl) (fun w hw => ?_)
  refine z6 ?_
  have hpx : (pgs l)[k]? = some (x.1, x.2.pg) := by unfold pgs; rw [List.getElem?_map, hx]; rfl
  have hw := Sat.both_snoc (hw.b [stO _, pgO p'])
  have hz := hw.b [row 4 1 (.slice (some ⟨zb, 0, none⟩) _ _) _ _, blk q _ _, row 3 _ _ _ _, row 4 1 (.slice (some ⟨lb, 0, none⟩) _ _) _ _, row 75 _ _ _ _, both _]
  have hee : S.map pgO ++ [pgO p'] = (S ++ [p']).map pgO := by simp
  rw [hee] at hz
  refine ⟨l.length - (k + 1), by omega, [(0, _), (1, _), (2, _), (8, _), (10, _), (12, .int .i64 (k + 1 : Nat))], sB, k + 1, ld.set j true, ps.set j p', S ++ [p'], by omega, rfl, rfl, ⟨by simp [hld], by simp [hpsl], fun i hi => ?_, fun i hi => ?_, ?_⟩, hz⟩
  ·rw [List.getElem?_set, take_step hpx]
   by_cases hij : j = i
   ·subst hij
    rw [if_pos rfl, if_pos (by omega)]
    simp [hj]
   rw [if_neg hij, hla i hi]
   have h9 : ¬ (i : Int) + 1 = x.1 := by omega
   simp only [List.map_append, List.map_cons, List.map_nil, List.mem_append, List.mem_singleton, h9, or_false]
  ·rw [List.getElem?_set, take_step hpx, List.find?_append]
   by_cases hij : j = i
   ·subst hij
    rw [if_pos rfl, if_pos (by omega)]
    have h9 : ((pgs l).take k).find? (fun x => x.1 == (j : Int) + 1) = none := by
     rw [List.find?_eq_none]
     intro y hy hyj
     simp at hyj
     exact h7' (List.mem_map.2 ⟨y, hy, by omega⟩)
    have h10 : [(x.1, x.2.pg)].find? (fun x => x.1 == (j : Int) + 1) = some (x.1, x.2.pg) := by simp [hj]
    rw [h9, h10]
    exact ⟨p', rfl, hpe, by simp, hps⟩
   rw [if_neg hij]
   have h10 : [(x.1, x.2.pg)].find? (fun x => x.1 == (i : Int) + 1) = none := by
    have : ¬ x.1 = (i : Int) + 1 := by omega
    simp [this]
   rw [h10, Option.or_none]
   obtain ⟨pg, h11, h12⟩ := hpa i hi
   refine ⟨pg, h11, ?_⟩
   cases hf : ((pgs l).take k).find? (fun x => x.1 == (i : Int) + 1) with
   | none => rw [hf] at h12; exact h12
   | some y => rw [hf] at h12; exact ⟨h12.1, List.mem_append_left _ h12.2.1, h12.2.2⟩
  rw [take_step hpx, List.map_append, List.reverse_append]; exact hle
 have hke : k = l.length := by omega
 subst hke
 have htk : (pgs l).take l.length = pgs l := List.take_of_length_le (by simp [pgs])
 rw [show (pgs l).drop l.length = [] from List.drop_eq_nil_of_le (by simp [pgs])] at hle
 rw [htk] at hla hpa
 have hlz : ldErr c [] (pgs l) = 0 := hle
 refine z7 ?_
 refine x_loop (fun m e w => ∃ (k : Nat), k ≤ c.length ∧ m = c.length - k ∧ e = [(1, .slice ca0 c.length cc0), (8, .pointer (some ⟨q, 0, none⟩)), (10, .slice (some ⟨zb, 0, none⟩) c.length cz), (15, .int .i64 k)] ∧ (∀ (i : Nat) (y : Int), i < k → c[i]? = some y → 0 < y → (i : Int) + 1 ∈ (pgs l).map (·.1)) ∧ Sat G (row 4 1 (.slice (some ⟨zb, 0, none⟩) c.length cz) c.length (bls ld) :: blk q [.int .i64 refs, .slice (some ⟨cb, 0, none⟩) c.length cc, .slice (some ⟨lb, 0, none⟩) c.length lc, .slice (some ⟨pb, 0, none⟩) c.length pc, .slice none 0 0, .int .i64 0, .bool false] 101 :: row 3 1 (.slice (some ⟨cb, 0, none⟩) c.length cc) c.length (ints c) :: row 4 1 (.slice (some ⟨lb, 0, none⟩) c.length lc) c.length (bls (posL c)) :: row 75 5 (.slice (some ⟨pb, 0, none⟩) c.length pc) c.length (ps.map PgV.cells).flatten :: stO S :: L) w)
  (m := c.length) (e₀ := [(1, .slice ca0 c.length cc0), (8, .pointer (some ⟨q, 0, none⟩)), (10, .slice (some ⟨zb, 0, none⟩) c.length cz), (15, .int .i64 (0 : Nat))]) sB
  ⟨0, Nat.zero_le _, rfl, rfl, (fun i y hi => absurd hi (by omega)), hw⟩ ?_
 rintro m e w ⟨k, hk, rfl, rfl, hlk, hw⟩
 refine z8 ?_
 refine x_if rfl (fun h9 => ?_) (fun h9 => ?_)
 ·
  have hk' : k < c.length := by omega
  obtain ⟨x, hx⟩ : ∃ x, c[k]? = some x := ⟨_, List.getElem?_eq_getElem hk'⟩
  obtain ⟨bb, oo, rfl⟩ := ((kc.of sF).at hw).nn (by rw [ints_length]; omega)
  have hzk : Knows (row 4 1 (.slice (some ⟨zb, 0, none⟩) c.length cz) c.length (bls ld) :: blk q [.int .i64 refs, .slice (some ⟨cb, 0, none⟩) c.length cc, .slice (some ⟨lb, 0, none⟩) c.length lc, .slice (some ⟨pb, 0, none⟩) c.length pc, .slice none 0 0, .int .i64 0, .bool false] 101 :: row 3 1 (.slice (some ⟨cb, 0, none⟩) c.length cc) c.length (ints c) :: row 4 1 (.slice (some ⟨lb, 0, none⟩) c.length lc) c.length (bls (posL c)) :: row 75 5 (.slice (some ⟨pb, 0, none⟩) c.length pc) c.length (ps.map PgV.cells).flatten :: stO S :: L) (SlV (.slice (some ⟨zb, 0, none⟩) c.length cz) (bls ld)) := by
   have h := rowL (v := .slice (some ⟨zb, 0, none⟩) c.length cz) (c := ld) (R := blk q [.int .i64 refs, .slice (some ⟨cb, 0, none⟩) c.length cc, .slice (some ⟨lb, 0, none⟩) c.length lc, .slice (some ⟨pb, 0, none⟩) c.length pc, .slice none 0 0, .int .i64 0, .bool false] 101 :: row 3 1 (.slice (some ⟨cb, 0, none⟩) c.length cc) c.length (ints c) :: row 4 1 (.slice (some ⟨lb, 0, none⟩) c.length lc) c.length (bls (posL c)) :: row 75 5 (.slice (some ⟨pb, 0, none⟩) c.length pc) c.length (ps.map PgV.cells).flatten :: stO S :: L)
   rw [hld] at h
   exact h
  refine z7 ?_
  refine x_idx1 rfl rfl trivial U_sl_int sz_int rfl rfl ⟨by omega, by omega⟩ ?_
  refine x_ld rfl rfl trivial rfl (Loads.one one_int (((kc.of sF).at hw).at (by rw [Int.toNat_natCast]; exact ints_of hx))) ?_
  refine z2 ?_
  refine xl_and (l1 := [6, 7, 8, 9, 10, 11]) (l2 := []) rfl (d := 132) (0 < x ∧ ¬ ((k : Int) + 1 ∈ (pgs l).map (·.1))) rfl ?_ ?_
  ·
   refine xl_split (d := 126) rfl (fun h10 => ?_) (fun h10 => ?_)
   ·
    refine z2 ?_
    refine x_idx1 rfl rfl ⟨_, rfl, rfl⟩ U_sl_bool sz_bool rfl rfl ⟨by omega, by omega⟩ ?_
    refine x_ld rfl rfl ⟨_, rfl, rfl⟩ rfl (Loads.one (v := .bool (decide ((k : Int) + 1 ∈ (pgs l).map (·.1)))) one_bool (((hzk.of sF).at hw).at (by rw [Int.toNat_natCast]; simp only [bls, List.getElem?_map, hla k hk']; rfl))) ?_
    refine x_notp rfl rfl ⟨_, rfl, rfl⟩ rfl ?_
    refine z2 ?_
    refine cQ ?_
    first | exact (decide_eq_false (fun h => h10 h.1)).symm | exact decide_eq_decide.2 ⟨fun h => ⟨h10, h⟩, fun h => h.2⟩ | (rw [← decide_not]; exact decide_eq_decide.2 ⟨fun h => ⟨h10, h⟩, fun h => h.2⟩)
   refine z7 ?_
   refine cQ ?_
   first | exact (decide_eq_false (fun h => h10 h.1)).symm | exact decide_eq_decide.2 ⟨fun h => ⟨h10, h⟩, fun h => h.2⟩ | (rw [← decide_not]; exact decide_eq_decide.2 ⟨fun h => ⟨h10, h⟩, fun h => h.2⟩)
  refine xl_nil ?_
  refine x_if rfl (fun h11 => ?_) (fun h11 => ?_)
  ·
   refine z6 ?_
   exact end2 rfl rfl rfl rfl (.inl ⟨9, by decide, (fun h => h11.2 (h.2.2 k x hx h11.1)), rfl, (hw.b [row 4 1 (.slice (some ⟨zb, 0, none⟩) _ _) _ _, blk q _ _, row 3 _ _ _ _, row 4 1 (.slice (some ⟨lb, 0, none⟩) _ _) _ _, row 75 _ _ _ _, stO _]).tail.tail.tail.tail.tail.tail⟩)
  refine z6 ?_
  refine ⟨c.length - (k + 1), by omega, [(1, _), (8, _), (10, _), (15, .int .i64 (k + 1 : Nat))], sB, k + 1, by omega, rfl, rfl, fun i y hi hy hy0 => ?_, hw⟩
  by_cases hik : i < k
  ·exact hlk i y hik hy hy0
  obtain rfl : i = k := by omega
  rw [hx] at hy
  cases hy
  exact Decidable.not_not.1 (fun h => h11 ⟨hy0, h⟩)
 refine z8 ?_
 exact end2 rfl rfl rfl rfl (.inr (by
 have hke : k = c.length := by omega
 subst hke
 refine ⟨⟨hpl, hlz, fun i y hy hy0 => hlk i y (by have := (List.getElem?_eq_some_iff.1 hy).1; exact this) hy hy0⟩, q, ⟨refs, c, .slice (some ⟨cb, 0, none⟩) c.length cc, posL c, .slice (some ⟨lb, 0, none⟩) c.length lc, ps, .slice (some ⟨pb, 0, none⟩) c.length pc, .slice none 0 0, 0, false⟩, S, rfl, ⟨rfl, rfl, rfl, rfl, rfl, hpsl, hpa⟩, rfl, ?_⟩
 rw [rvx hpsl]
 exact hw.tail))
end
theorem nodup_le {α : Type} [BEq α] [LawfulBEq α] : ∀ {l m : List α}, l.Nodup → (∀ x ∈ l, x ∈ m) → l.length ≤ m.length
 | [], m, _, _ => Nat.zero_le _
 | x :: l, m, hn, hs => by
  have hx : x ∈ m := hs x (List.mem_cons_self ..)
  rw [List.nodup_cons] at hn
  have ih := nodup_le (l := l) (m := m.erase x) hn.2 (fun y hy => (List.mem_erase_of_ne (fun h => hn.1 (by rw [← h]; exact hy))).2 (hs y (List.mem_cons_of_mem _ hy)))
  rw [List.length_erase_of_mem hx] at ih
  have : 0 < m.length := List.length_pos_of_mem hx
  simp only [List.length_cons]; omega
def posK : Nat → List Int → List Int
 | _, [] => []
 | s, x :: c => if 0 < x then ((s : Int) + 1) :: posK (s + 1) c else posK (s + 1) c
theorem posK_mem (n : Int) : ∀ (c : List Int) (s : Nat), n ∈ posK s c ↔ ∃ (i : Nat) (x : Int), c[i]? = some x ∧ 0 < x ∧ n = (s : Int) + i + 1
 | [], s => by simp [posK]
 | y :: c, s => by
  have ih := posK_mem n c (s + 1)
  have key : (∃ (i : Nat) (x : Int), (y :: c)[i]? = some x ∧ 0 < x ∧ n = (s : Int) + i + 1) ↔ ((0 < y ∧ n = (s : Int) + 1) ∨ ∃ (i : Nat) (x : Int), c[i]? = some x ∧ 0 < x ∧ n = ((s + 1 : Nat) : Int) + i + 1) := by
   constructor
   ·rintro ⟨i, x, h1, h2, h3⟩
    cases i with
    | zero => simp at h1; subst h1; exact .inl ⟨h2, by simpa using h3⟩
    | succ i => exact .inr ⟨i, x, by simpa using h1, h2, by omega⟩
   rintro (⟨h1, h2⟩ | ⟨i, x, h1, h2, h3⟩)
   ·exact ⟨0, y, rfl, h1, by simpa using h2⟩
   exact ⟨i + 1, x, by simpa using h1, h2, by omega⟩
  rw [key, ← ih, posK]
  split
  ·rename_i h; simp [h]
  rename_i h; simp [h]
theorem posK_low : ∀ (c : List Int) (s : Nat), (∀ n ∈ posK s c, (s : Int) < n) ∧ (posK s c).Nodup
 | [], s => by simp [posK]
 | y :: c, s => by
  obtain ⟨h1, h2⟩ := posK_low c (s + 1)
  rw [posK]
  split
  ·refine ⟨fun n hn => ?_, ?_⟩
   ·rcases List.mem_cons.1 hn with rfl | hn
    ·omega
    have := h1 n hn; omega
   rw [List.nodup_cons]
   exact ⟨fun h => by have := h1 _ h; omega, h2⟩
  exact ⟨fun n hn => by have := h1 n hn; omega, h2⟩
theorem posK_len : ∀ (c : List Int) (s : Nat), ((posK s c).length : Int) = talN c 4
 | [], s => by simp [posK, talN]
 | y :: c, s => by
  have ih := posK_len c (s + 1)
  rw [posK]
  unfold talN at ih ⊢
  rw [List.filter_cons]
  have e : decide (st1 y = 4) = decide (0 < y) := by unfold st1; by_cases h : 0 < y <;> simp [h]
  rw [e]
  by_cases h : 0 < y
  ·rw [if_pos h, decide_eq_true h, if_pos rfl]; simp only [List.length_cons]; omega
  rw [if_neg h, decide_eq_false h]; simpa using ih
theorem cntP_pos {c : List Int} {n : Int} : 0 < cntP c n ↔ ∃ (i : Nat) (x : Int), c[i]? = some x ∧ 0 < x ∧ n = (i : Int) + 1 := by
 unfold cntP thereP
 constructor
 ·intro h
  split at h
  ·rename_i h1
   have h2 : (n - 1).toNat < c.length := by omega
   refine ⟨(n - 1).toNat, c[(n - 1).toNat], List.getElem?_eq_getElem h2, ?_, by omega⟩
   rw [List.getD_eq_getElem?_getD, List.getElem?_eq_getElem h2] at h
   exact h
  omega
 rintro ⟨i, x, h1, h2, h3⟩
 have hi := (List.getElem?_eq_some_iff.1 h1).1
 rw [if_pos (by omega), show (n - 1).toNat = i by omega, List.getD_eq_getElem?_getD, h1]
 exact h2
theorem ldErr_nodup {c : List Int} : ∀ {l : List (Int × Pg)} {seen : List Int}, ldErr c seen l = 0 → (l.map (·.1)).Nodup ∧ (∀ x ∈ l, cntP c x.1 ≠ 0 ∧ x.1 ∉ seen ∧ checkP x.2 = 0)
 | [], seen, _ => by simp
 | x :: l, seen, h => by
  rw [ldErr] at h
  split at h
  ·cases h
  rename_i h0
  split at h
  ·cases h
  rename_i h1
  split at h
  ·rename_i h2; exact absurd h h2
  rename_i h2
  obtain ⟨h3, h4⟩ := ldErr_nodup h
  refine ⟨?_, fun y hy => ?_⟩
  ·rw [List.map_cons, List.nodup_cons]
   refine ⟨fun hm => ?_, h3⟩
   obtain ⟨y, hy, hyx⟩ := List.mem_map.1 hm
   exact (h4 y hy).2.1 (by rw [hyx]; exact List.mem_cons_self ..)
  rcases List.mem_cons.1 hy with rfl | hy
  ·exact ⟨h0, h1, Decidable.not_not.1 h2⟩
  have := h4 y hy
  exact ⟨this.1, fun hs => this.2.1 (List.mem_cons_of_mem _ hs), this.2.2⟩
theorem pl_nonneg {refs : Int} {c : List Int} (h : plErr refs c = 0) : ∀ x ∈ c, 0 ≤ x ∧ x ≤ refs := by
 unfold plErr at h
 split at h
 ·cases h
 split at h
 ·cases h
 rename_i h1; exact Decidable.not_not.1 h1
theorem vl_iff {refs : Int} {c : List Int} {l : List (Int × Pg)} : vlErr refs c l = 0 ↔ ldOk refs c l := by
 unfold vlErr ldOk
 by_cases h1 : plErr refs c = 0
 ·rw [if_neg (not_not_intro h1)]
  by_cases h2 : ldErr c [] l = 0
  ·rw [if_neg (not_not_intro h2)]
   have hnn : ∀ n, 0 ≤ cntP c n := fun n => by
    unfold cntP
    split
    ·rw [List.getD_eq_getElem?_getD]
     cases h : c[(n - 1).toNat]? with
     | none => simp
     | some y => exact (pl_nonneg h1 y (List.mem_of_getElem? h)).1
    omega
   obtain ⟨h3, h4⟩ := ldErr_nodup h2
   have hsub : ∀ n ∈ l.map (·.1), n ∈ posK 0 c := fun n hn => by
    obtain ⟨x, hx, rfl⟩ := List.mem_map.1 hn
    have h5 : 0 < cntP c x.1 := by have := hnn x.1; have := (h4 x hx).1; omega
    obtain ⟨i, y, h6, h7, h8⟩ := cntP_pos.1 h5
    exact (posK_mem _ _ _).2 ⟨i, y, h6, h7, by omega⟩
   have hpl := posK_len c 0
   have hnd := (posK_low c 0).2
   have hlm : (l.map (·.1)).length = l.length := List.length_map ..
   constructor
   ·intro h
    refine ⟨h1, h2, fun i x hx hx0 => Decidable.byContradiction fun hn => ?_⟩
    have hm : (i : Int) + 1 ∈ posK 0 c := (posK_mem _ _ _).2 ⟨i, x, hx, hx0, by omega⟩
    have h5 := nodup_le h3 (m := (posK 0 c).erase ((i : Int) + 1)) (fun n hn' => (List.mem_erase_of_ne (fun he => hn (by rw [← he]; exact hn'))).2 (hsub n hn'))
    rw [List.length_erase_of_mem hm] at h5
    have : 0 < (posK 0 c).length := List.length_pos_of_mem hm
    rw [if_pos (by omega)] at h
    cases h
   rintro ⟨-, -, h⟩
   have h5 := nodup_le hnd (m := l.map (·.1)) (fun n hn => by
     obtain ⟨i, x, h6, h7, h8⟩ := (posK_mem _ _ _).1 hn
     rw [h8, show ((0 : Nat) : Int) + (i : Int) + 1 = (i : Int) + 1 by omega]
     exact h i x h6 h7)
   rw [if_neg (by omega)]
  rw [if_pos h2]
  exact ⟨fun h => absurd h h2, fun h => absurd h.2.1 h2⟩
 rw [if_pos h1]
 exact ⟨fun h => absurd h h1, fun h => absurd h.1 h1⟩
section
variable {G : Gh} {L R : List Assn} {w : World}
theorem ct_ref14_Image_Vault {refs : Int} {vc vl vt : Value} {c : List Int} {l : List (Int × PgV)} (hw : Sat G L w) (kc : Knows L (SlV vc (ints c))) (hl9 : c.length ≤ 1000000000) (kl : Knows L (SlT 6 vl (l.map numC))) (hlo : ∀ x ∈ l, x.2.Ok L) (hll : l.length ≤ 1000000000) (hvt : vt.oneCell' = true) :
  Calls Tryz.prog 11 #[.agg #[.int .i64 refs, vc, vl, vt]] w (Ret fun r w' => (¬ ldOk refs c (pgs l) ∧ r = .pointer none ∧ Sat G L w') ∨
   (ldOk refs c (pgs l) ∧ ∃ q v S, r = .pointer (some ⟨q, 0, none⟩) ∧ RvOk refs c (pgs l) v S ∧ v.hush = true ∧ Sat G (rvP q v (stO S :: L)) w')) := by
 obtain ⟨ca, cc, rfl⟩ := (kc.at hw).form
 obtain ⟨la, lac, rfl, -, -⟩ := (kl.at hw).form
 refine calls_of_x (args := [_]) Tryz.func11 rfl Tryz.ntmps11 rfl rfl ?_
 refine z2 ?_
 refine x_box rfl rfl trivial rfl rfl hw rfl (fun w b1 hw => ?_)
 refine z5 ?_
 refine lD (v := .int .i64 refs) one_int hw ?_
 refine z1 ?_
 refine lD (v := .slice ca (ints c).length cc) one_sl_int hw ?_
 refine z1 ?_
 refine lD (v := .slice la (l.map numC).length lac) one_sl_api_Numbered hw ?_
 refine x_call rfl rfl trivial cal_ref11_Load rfl (ct_ref11_Load (c := c) (l := l) hw (kc.of sF) hl9 (kl.of sF) (fun x hx => (hlo x hx).of sF) hll) rfl (fun w v12 hv => ?_)
 have hv2 : ∃ (pp : Option Addr) (er : Int), v12 = .tuple #[.pointer pp, .int .i64 er] ∧ ((er ≠ 0 ∧ ¬ ldOk refs c (pgs l) ∧ Sat G (blk b1 [.int .i64 refs, .slice ca (ints c).length cc, .slice la (l.map numC).length lac, vt] 26 :: L) w) ∨ (er = 0 ∧ ldOk refs c (pgs l) ∧ ∃ q v S, pp = some ⟨q, 0, none⟩ ∧ RvOk refs c (pgs l) v S ∧ Sat G (rvP q v (stO S :: blk b1 [.int .i64 refs, .slice ca (ints c).length cc, .slice la (l.map numC).length lac, vt] 26 :: L)) w)) := by
  rcases hv with ⟨er, h1, h2, h3, h4⟩ | ⟨h1, q, v, S, h2, h3, -, h4⟩
  ·exact ⟨none, er, h3, .inl ⟨h1, h2, h4⟩⟩
  exact ⟨some ⟨q, 0, none⟩, 0, h2, .inr ⟨rfl, h1, q, v, S, rfl, h3, h4⟩⟩
 obtain ⟨pp, er, rfl, hv2⟩ := hv2
 refine z12 ?_
 refine x_if rfl (fun h1 => ?_) (fun h1 => ?_)
 ·
  refine z5 ?_
  exact end1 rfl rfl rfl (by
 obtain ⟨-, hno, hw⟩ := hv2.resolve_right (fun h => h1 h.1)
 exact .inl ⟨hno, rfl, hw.tail⟩)
 obtain ⟨rfl, hok, q, v, S, rfl, hro, hw⟩ := hv2.resolve_left (fun h => h.1 (by omega))
 obtain ⟨vr, vc', vcv, vl', vlv, vp, vpv, vav, vfl, vhu⟩ := v
 refine z6 ?_
 refine x_st1 (l' := [.int .i64 vr, vcv, vlv, vpv, vav, .int .i64 vfl, .bool true]) rfl trivial rfl rfl one_bool rfl hw pK rfl rfl rfl (fun w hw => ?_)
 refine z7 ?_
 exact end1 rfl rfl rfl (.inr ⟨hok, q, ⟨vr, vc', vcv, vl', vlv, vp, vpv, vav, vfl, true⟩, S, rfl, ⟨hro.er, hro.ec, hro.el, hro.ea, hro.ef, hro.plen, hro.ep⟩, rfl, (by have hz := (hw.b [blk b1 _ _, blk q _ _, row 3 _ _ _ _, row 4 _ _ _ _, row 75 _ _ _ _]).tail; exact hz)⟩)
end
def loadPo (refs : Int) (c : List Int) : Po := ⟨refs, c, posL c, [], 0⟩
def loadVa (refs : Int) (c : List Int) (l : List (Int × Pg)) : Va := ⟨loadPo refs c, fun n => (l.find? fun x => x.1 == n).map (·.2), [], 0⟩
theorem talN_zero {c : List Int} {k : Int} (h1 : k ≠ 1) (h4 : k ≠ 4) : talN c k = 0 := by
 unfold talN
 rw [List.filter_eq_nil_iff.2 (fun x _ => by
  simp only [decide_eq_true_eq]
  unfold st1
  split <;> omega)]
 rfl
theorem plN_plT {refs : Int} {c : List Int} {cv lv fv : Value} {fq : Nat} {rs : List (Int × Int)} : plN refs c cv lv fq = plT (loadPo refs c) ⟨cv, lv, fq, fv, .slice none 0 0, rs, []⟩ (tlP c (posL c)) := by
 have e : ∀ k, cntS k c (posL c) = talN c k := fun k => cntS_tal k c
 simp only [plT, loadPo, tlP, plN, e]
 have h2 := talN_zero (c := c) (k := 2) (by decide) (by decide)
 have h3 := talN_zero (c := c) (k := 3) (by decide) (by decide)
 simp [h2, h3, posL]
theorem stP_load {c : List Int} {n : Int} (h : ∀ x ∈ c, 0 ≤ x) : stP c (posL c) n = 1 ↔ thereP c n ∧ c.getD (n - 1).toNat 0 = 0 := by
 unfold stP
 by_cases ht : thereP c n
 ·rw [if_pos ht]
  have hi : (n - 1).toNat < c.length := by unfold thereP at ht; omega
  have hx := h c[(n - 1).toNat] (List.getElem_mem hi)
  obtain ⟨y, hy⟩ : ∃ y, y = c[(n - 1).toNat] := ⟨_, rfl⟩
  simp only [List.getD_eq_getElem?_getD, posL, List.getElem?_map, List.getElem?_eq_getElem hi, Option.getD_some, Option.map_some, ht, true_and, ← hy]
  rw [← hy] at hx
  by_cases h0 : 0 < y
  ·rw [if_pos h0, decide_eq_true h0, if_pos rfl]; omega
  rw [if_neg h0, decide_eq_false h0, if_neg (by decide)]; omega
 rw [if_neg ht]; simp [ht]
theorem load_po_shut {G : Gh} {L : List Assn} {w : World} {refs : Int} {c : List Int} {q fq : Nat} {cv lv fv : Value} (hc : ∀ x ∈ c, 0 ≤ x) (hw : Sat G (plP q (plN refs c cv lv fq) (setQ fq fv (freeR c) L)) w) : Sat G (poA q (loadPo refs c) :: L) w := by
 obtain ⟨h1, h2⟩ := freeR_free c.length c rfl
 refine poA_shut (m := ⟨cv, lv, fq, fv, .slice none 0 0, freeR c, []⟩) ⟨rfl, h1, fun n => ?_⟩ ?_
 ·rw [h2]; exact (stP_load hc).symm
 rw [plN_plT (fv := fv) (rs := freeR c)] at hw
 have hz := row_nil hw 227 1
 have hz := Sat.both_in (M := []) hz
 have hz := hz.b [blk q _ _, row 3 _ _ _ _, row 4 _ _ _ _, blk fq _ _, row 232 _ _ _ _, row 227 _ _ _ _, both _]
 exact hz
theorem onF_pgs {on : List (Int × PgV)} {n : Int} : (onF on n).map PgV.pg = ((pgs on).find? fun x => x.1 == n).map (·.2) := by
 unfold onF pgs
 induction on with
 | nil => rfl
 | cons x on ih =>
  simp only [List.map_cons, List.find?_cons]
  by_cases h : x.1 == n
  ·simp [h]
  simp only [h]; exact ih
theorem load_shut {G : Gh} {L : List Assn} {w : World} {refs : Int} {c : List Int} {vq pq om fq : Nat} {cv lv fv : Value} {on : List (Int × PgV)} (hc : ∀ x ∈ c, 0 ≤ x) (hsm : ∀ x ∈ on, x.2.Sm)
  (hw : Sat G (vtP vq pq om (.slice none 0 0) 0 (plN refs c cv lv fq) on (on.map (·.2)) (setQ fq fv (freeR c) L)) w) : Sat G (vaA vq (loadVa refs c (pgs on)) :: L) w := by
 have h1 := load_po_shut hc (hw.b [blk pq _ _, row 3 _ _ _ _, row 4 _ _ _ _, blk fq _ _, row 232 _ _ _ _])
 refine vaA_shut (m := ⟨pq, om, .slice none 0 0, on, on.map (·.2), []⟩) ⟨fun n => onF_pgs, fun n p h => List.mem_map.2 ⟨_, onF_mem h, rfl⟩, fun p hp => ?_, rfl, (fun a ha => by cases ha)⟩ ?_
 ·obtain ⟨x, hx, rfl⟩ := List.mem_map.1 hp
  exact hsm x hx
 have hz := row_nil h1 170 2
 have hz := Sat.both_in (M := []) hz
 have hz := hz.b [blk vq _ _, mapI _ _, stO _, row 170 _ _ _ _, both [], poA _ _]
 exact hz
theorem loadVa_ok {refs : Int} {c : List Int} {l : List (Int × Pg)} (h : ldOk refs c l) : (loadVa refs c l).Ok := by
 obtain ⟨h1, h2, h3⟩ := h
 obtain ⟨h4, h5⟩ := ldErr_nodup h2
 have hpl : 1 ≤ (c.length : Int) ∧ (c.length : Int) ≤ 65536 ∧ 2 ≤ refs ∧ refs < 65536 := by
  refine Decidable.byContradiction fun hn => ?_
  unfold plErr at h1; rw [if_pos hn] at h1; cases h1
 have hb : (loadVa refs c l).Base := by
  refine ⟨⟨?_, posL_len, ⟨hpl.2.2.1, hpl.2.2.2⟩, (fun a ha => by cases ha), fun k hk x hx => ?_⟩, by simp [loadVa, loadPo], by simp [loadVa], fun n p hp => ?_, fun n hn => ?_, (fun a ha => by cases ha), (fun a ha => by cases ha)⟩
  ·have := hpl.2.1; simp only [loadVa, loadPo]; omega
  ·have h6 : undoC c ([].drop k) = c := by rw [List.drop_nil]; rfl
   have hx' : x ∈ undoC c ([].drop k) := hx
   rw [h6] at hx'
   exact pl_nonneg h1 x hx'
  ·have hp' : (l.find? fun x => x.1 == n).map (·.2) = some p := hp
   obtain ⟨y, hy, rfl⟩ := Option.map_eq_some_iff.1 hp'
   exact (h5 y (List.mem_of_find?_eq_some hy)).2.2
  have hn' : cntP c n ≠ 0 := hn
  have hpos : 0 < cntP c n := by
   unfold cntP at hn' ⊢
   split
   ·rename_i ht
    rw [if_pos ht] at hn'
    have hi : (n - 1).toNat < c.length := by unfold thereP at ht; omega
    rw [List.getD_eq_getElem?_getD, List.getElem?_eq_getElem hi] at hn' ⊢
    have := (pl_nonneg h1 _ (List.getElem_mem hi)).1
    simp only [Option.getD_some] at hn' ⊢
    omega
   rename_i ht; rw [if_neg ht] at hn'; omega
  obtain ⟨i, x, h6, h7, h8⟩ := cntP_pos.1 hpos
  have h9 := h3 i x h6 h7
  rw [← h8] at h9
  obtain ⟨y, hy, hyn⟩ := List.mem_map.1 h9
  intro he
  have he' : (l.find? fun x => x.1 == n).map (·.2) = none := he
  rw [Option.map_eq_none_iff, List.find?_eq_none] at he'
  exact he' y hy (by simp [hyn])
 exact ⟨hb, fun k hk => by
  have : k = 0 := by simp only [loadVa, List.length_nil] at hk; omega
  subst this; exact hb⟩
section
variable {G : Gh} {L R : List Assn} {w : World}
theorem ct_law22_loaded {refs : Int} {vc vl vt : Value} {c : List Int} {l : List (Int × PgV)} (hw : Sat G L w) (kc : Knows L (SlV vc (ints c))) (hl9 : c.length ≤ 1000000000) (kl : Knows L (SlT 6 vl (l.map numC))) (hlo : ∀ x ∈ l, x.2.Ok L) (hll : l.length ≤ 1000000000) (hvt : vt.oneCell' = true) :
  Calls Tryz.prog 6 #[.agg #[.int .i64 refs, vc, vl, vt]] w (Ret fun r w' => (¬ ldOk refs c (pgs l) ∧ r = .tuple #[.pointer none, .bool true] ∧ Sat G L w') ∨
   (ldOk refs c (pgs l) ∧ ∃ vq, r = .tuple #[.pointer (some ⟨vq, 0, none⟩), .bool true] ∧ Sat G (vaA vq (loadVa refs c (pgs l)) :: L) w')) := by
 obtain ⟨ca, cc, rfl⟩ := (kc.at hw).form
 obtain ⟨la, lac, rfl, -, -⟩ := (kl.at hw).form
 rw [List.length_map] at kl
 rw [List.length_map]
 refine calls_of_x (args := [_]) Tryz.func6 rfl Tryz.ntmps6 rfl rfl ?_
 refine z2 ?_
 refine x_box rfl rfl trivial rfl rfl hw rfl (fun w b1 hw => ?_)
 refine z13 ?_
 have hw := row_nil hw 77 6
 have hw := Sat.both_in (M := ([] : List PgV).map pgO) hw
 have hw := hw.b [row 77 _ _ _ _, both _, blk b1 _ _]
 refine x_loop (fun m e w => ∃ (k : Nat) (lp : List (Int × PgV)) (u : Value), k ≤ l.length ∧ m = l.length - k ∧ e = [(1, .pointer (some ⟨b1, 0, none⟩)), (4, u), (5, .int .i64 k)] ∧ (lp.length = k ∧ pgs lp = (pgs l).take k ∧ (∀ x ∈ lp, x.2.Sm)) ∧ Sat G (row 77 6 u k (lp.map numC).flatten :: stO (lp.map (·.2)) :: blk b1 [.int .i64 refs, .slice ca (ints c).length cc, .slice la l.length lac, vt] 26 :: L) w)
  (m := l.length) (e₀ := [(1, .pointer (some ⟨b1, 0, none⟩)), (4, .slice none 0 0), (5, .int .i64 (0 : Nat))]) sB
  ⟨0, [], _, Nat.zero_le _, rfl, rfl, ⟨rfl, rfl, (fun x hx => by cases hx)⟩, hw⟩ ?_
 rintro m e w ⟨k, lp, u, hk, rfl, rfl, ⟨hlp, hpg, hsm⟩, hw⟩
 refine z5 ?_
 refine lD (v := .slice la l.length lac) one_sl_api_Numbered hw ?_
 refine x_len rfl rfl trivial (by kernel_rfl) U_sl_api_Numbered rfl ?_
 refine z2 ?_
 refine x_if rfl (fun h1 => ?_) (fun h1 => ?_)
 ·
  have hk' : k < l.length := by omega
  obtain ⟨x, hx⟩ : ∃ x, l[k]? = some x := ⟨_, List.getElem?_eq_getElem hk'⟩
  have hxo := hlo x (List.mem_of_getElem? hx)
  have hxr : (l.map numC)[k]? = some (numC x) := by rw [List.getElem?_map, hx]; rfl
  obtain ⟨bb, oo, rfl⟩ := ((kl.of sF).at hw).nn (by rw [List.length_map]; omega)
  refine z3 ?_
  refine x_draw [0, 1, 2, 3, 4, 5, 6, 7, 8, 9, 10, 11, 12, 13, 14, 15, 16, 17] mixed (by kernel_rfl) ?_
  replace hw := hw.drawn (w.drawn + 1)
  refine z2 ?_
  refine lD (v := .slice (some ⟨bb, oo, none⟩) l.length lac) one_sl_api_Numbered hw ?_
  refine z1 ?_
  refine x_idx rfl rfl trivial U_sl_api_Numbered sz_api_Numbered rfl rfl ⟨by omega, by omega⟩ ?_
  refine x_fldk rfl rfl trivial fo_api_Numbered_0 rfl ?_
  refine x_ld rfl rfl trivial rfl (Loads.one (v := .int .i64 x.1) one_int (by
 have h := (kl.of sF).at hw
 exact SlT.cell (j := 0) h hxr rfl)) ?_
  refine z1 ?_
  refine lD (v := .slice (some ⟨bb, oo, none⟩) l.length lac) one_sl_api_Numbered hw ?_
  refine z1 ?_
  refine x_idx rfl rfl trivial U_sl_api_Numbered sz_api_Numbered rfl rfl ⟨by omega, by omega⟩ ?_
  refine x_fldk rfl rfl trivial fo_api_Numbered_1 rfl ?_
  refine x_ld rfl rfl trivial rfl (Loads.many (cs := x.2.cells) many_api_Page rfl (by have h := (((kl.of sF).at hw).at hxr).drop 1; rw [Int.toNat_natCast]; exact h)) ?_
  refine x_callP rfl rfl trivial cal_ref00_CopyPage rfl (ct_ref00_CopyPage (p := x.2) hw (hxo.of sF)) (fun w v29 hv q' hq => ?_) (fun w v29 hv => ?_)
  ·
   obtain ⟨p', rfl, hpe, hps, hw⟩ := hv
   have hq := pend_mem (l := [6, 2]) (by kernel_rfl) hq
   simp only [List.mem_cons, List.not_mem_nil, or_false] at hq
   rcases hq with rfl | rfl
   ·exact chk_ld rfl rfl rfl (Loads.one (v := .int .i64 x.1) one_int (by
 have h := (kl.of sF).at hw
 exact SlT.cell (j := 0) h hxr rfl))
   exact chk_ld rfl rfl rfl (Loads.blk1 (v := .slice (some ⟨bb, oo, none⟩) l.length lac) one_sl_api_Numbered hw pK rfl)
  obtain ⟨p', rfl, hpe, hps, hw⟩ := hv
  refine x_build (v := .agg (numC (x.1, p')).toArray) rfl rfl trivial rfl (fun w => by kernel_rfl) ?_
  refine x_bs1 (cs := numC (x.1, p')) rfl rfl trivial U_sl_api_Numbered sz_api_Numbered zs_api_Numbered (by decide) rfl rfl rfl hw (by kernel_rfl) (fun w b31 hw => ?_)
  refine x_app (m := k) (k := 1) (news := numC (x.1, p')) rfl rfl trivial U_sl_api_Numbered sz_api_Numbered by_api_Numbered zs_api_Numbered rfl rfl hw pK (Rd.blk0 hw pK) rfl (by intro u hu; rcases List.mem_cons.1 hu with rfl | hu; rfl; exact ones_pg (pgParts_ok hps pK) hw u hu) (by simp only [maxLen]; omega) (by omega) (by kernel_rfl) (fun w v32 hw => ?_)
  refine z7 ?_
  have hpx : (pgs l)[k]? = some (x.1, x.2.pg) := by unfold pgs; rw [List.getElem?_map, hx]; rfl
  have hw := Sat.both_snoc (hw.b [stO _, pgO p'])
  have hz := (hw.b [blk b31 _ _, row 77 _ _ _ _, both _, blk b1 _ _]).tail
  have hee : (lp.map (·.2)).map pgO ++ [pgO p'] = ((lp ++ [(x.1, p')]).map (·.2)).map pgO := by simp
  have hen : (lp.map numC).flatten ++ numC (x.1, p') = ((lp ++ [(x.1, p')]).map numC).flatten := by simp
  rw [hee, hen] at hz
  refine ⟨l.length - (k + 1), by omega, [(1, _), (4, _), (5, .int .i64 (k + 1 : Nat))], sB, k + 1, lp ++ [(x.1, p')], _, by omega, rfl, rfl, ⟨by simp [hlp], ?_, ?_⟩, hz⟩
  ·rw [take_step hpx, ← hpg, ← hpe]; simp [pgs]
  intro y hy
  rcases List.mem_append.1 hy with hy | hy
  ·exact hsm y hy
  simp at hy; subst hy; exact hps
 have hke : k = l.length := by omega
 subst hke
 rw [List.take_of_length_le (by simp [pgs])] at hpg
 refine z2 ?_
 refine x_draw [0, 1, 2, 3, 5, 4, 6, 7, 8, 9, 10, 11] mixed (by kernel_rfl) ?_
 replace hw := hw.drawn (w.drawn + 1)
 refine z1 ?_
 refine lD (v := .int .i64 refs) one_int hw ?_
 refine z1 ?_
 refine lD (v := .slice ca (ints c).length cc) one_sl_int hw ?_
 refine z1 ?_
 refine x_callP rfl rfl trivial cal_ref00_CopyInts rfl (ct_ref00_CopyInts (l := c) hw (kc.of sF) hl9) (fun w v38 hv q' hq => ?_) (fun w v38 hv => ?_)
 ·
  have hw : Sat G (row 3 1 v38 c.length (ints c) :: _) _ := hv
  have hq := pend_mem (l := [1]) (by kernel_rfl) hq
  simp only [List.mem_cons, List.not_mem_nil, or_false] at hq
  subst hq
  exact chk_ld rfl rfl rfl (Loads.blk1 (v := .int .i64 refs) one_int hw pK rfl)
 have hw : Sat G (row 3 1 v38 c.length (ints c) :: _) _ := hv
 have hkn : ∀ R, Knows (row 77 6 u l.length (lp.map numC).flatten :: R) (SlT 6 u (lp.map numC)) := fun R => (SlT.row (by simp [hlp]) (numC_z lp)).head R
 refine x_call rfl rfl trivial cal_vault_Load rfl (ct_vault_Load (c := c) (l := lp) hw (rowI.of sF) hl9 ((hkn _).of sF) (fun x hx => stO_ok (S := lp.map (·.2)) (List.mem_map.2 ⟨_, hx, rfl⟩) (hsm x hx) pK) (by omega)) (by kernel_rfl) (fun w v40 hv => ?_)
 have hv2 : ∃ (pp : Option Addr) (er : Int) (A : Assn), v40 = .tuple #[.pointer pp, .int .i64 er] ∧ ((er ≠ 0 ∧ ¬ ldOk refs c (pgs l) ∧ pp = none ∧ A = both []) ∨ (er = 0 ∧ ldOk refs c (pgs l) ∧ ∃ vq, pp = some ⟨vq, 0, none⟩ ∧ A = vaA vq (loadVa refs c (pgs l)))) ∧ Sat G (A :: row 3 1 v38 c.length (ints c) :: row 77 6 u l.length (lp.map numC).flatten :: stO (lp.map (·.2)) :: blk b1 [.int .i64 refs, .slice ca (ints c).length cc, .slice la l.length lac, vt] 26 :: L) w := by
  rw [hpg] at hv
  rcases hv with ⟨h2, h3, h4⟩ | ⟨h2, vq, pq, om, cv, lv, fq, fv, on, h3, h4, h5, h6⟩
  ·exact ⟨none, _, both [], h3, .inl ⟨h2, fun h => h2 (vl_iff.2 h), rfl, rfl⟩, Sat.both_in (M := []) h4⟩
  have hok := vl_iff.1 h2
  have h7 := load_shut (fun x hx => (pl_nonneg hok.1 x hx).1) h5 h6
  rw [h4] at h7
  exact ⟨_, 0, _, h3, .inr ⟨rfl, hok, vq, rfl, rfl⟩, h7⟩
 obtain ⟨pp, er, A, rfl, hcs, hw⟩ := hv2
 refine z8 ?_
 refine lA (l := [.int .i64 refs, .slice ca (ints c).length cc, .slice la l.length lac, vt]) many_coppiceref14_Image hw ?_
 refine x_call rfl rfl trivial cal_ref14_Image_Vault rfl (ct_ref14_Image_Vault (c := c) (l := l) hw (kc.of sF) hl9 (kl.of sF) (fun x hx => (hlo x hx).of sF) hll hvt) rfl (fun w v44 hv => ?_)
 have hv2 : ∃ (rr : Option Addr), v44 = .pointer rr ∧ ((¬ ldOk refs c (pgs l) ∧ rr = none) ∨ (ldOk refs c (pgs l) ∧ ∃ x, rr = some x)) ∧ Sat G (A :: L) w := by
  rcases hv with ⟨h2, h3, h4⟩ | ⟨h2, q, v, S, h3, -, -, h4⟩
  ·exact ⟨none, h3, .inl ⟨h2, rfl⟩, (h4.b [row 3 _ _ _ _, row 77 _ _ _ _, stO _, blk b1 _ _]).tail.tail.tail.tail⟩
  have hz := (h4.b [blk q _ _, row 3 1 v.cv _ _, row 4 1 v.lv _ _, row 75 _ _ _ _, stO S, row 3 1 v38 _ _, row 77 _ _ _ _, stO (lp.map (·.2)), blk b1 _ _]).tail.tail.tail.tail.tail.tail.tail.tail.tail
  exact ⟨some ⟨q, 0, none⟩, h3, .inr ⟨h2, _, rfl⟩, hz⟩
 obtain ⟨rr, rfl, hrr, hw⟩ := hv2
 have h1' : pp.isNone = rr.isNone := by
  rcases hcs with ⟨h2, h3, h4, -⟩ | ⟨h2, h3, vq, h4, -⟩ <;> rcases hrr with ⟨h5, h6⟩ | ⟨h5, x, h6⟩
  ·rw [h4, h6]
  ·exact absurd h5 h3
  ·exact absurd h3 h5
  rw [h4, h6]; simp
 have h2' : decide (er = 0) = rr.isSome := by
  rcases hcs with ⟨h2, h3, h4, -⟩ | ⟨h2, h3, vq, h4, -⟩ <;> rcases hrr with ⟨h5, h6⟩ | ⟨h5, x, h6⟩
  ·rw [h6]; simp [h2]
  ·exact absurd h5 h3
  ·exact absurd h3 h5
  rw [h6]; simp [h2]
 refine z6 ?_
 refine x_eqnil rfl rfl trivial (by kernel_rfl) U_p_vault_Vault rfl ?_
 refine z1 ?_
 refine x_eqnil rfl rfl trivial (by kernel_rfl) U_p_coppiceref11_Vault rfl ?_
 refine x_eqb rfl rfl trivial (by kernel_rfl) U_bool rfl rfl ?_
 refine z1 ?_
 refine xl_and (l1 := [7, 8, 9, 10, 11, 12]) (l2 := [13, 14]) rfl (d := 57) (True) rfl ?_ ?_
 ·
  refine xl_split (d := 51) rfl (fun h2 => ?_) (fun h2 => ?_)
  ·
   refine z3 ?_
   refine x_nenil rfl rfl ⟨_, rfl, rfl⟩ (by kernel_rfl) U_p_coppiceref11_Vault rfl ?_
   refine x_eqb rfl rfl ⟨_, rfl, rfl⟩ (by kernel_rfl) U_bool rfl rfl ?_
   refine z2 ?_
   refine cQ ?_
   first | (exact absurd h1' h2) | (exact decide_eq_decide.2 (iff_of_true h2' trivial))
  refine z7 ?_
  refine cQ ?_
  first | (exact absurd h1' h2) | (exact decide_eq_decide.2 (iff_of_true h2' trivial))
 refine z4 ?_
 exact end2 rfl rfl rfl rfl (by
 rcases hcs with ⟨h3, h4, rfl, rfl⟩ | ⟨h3, h4, vq, rfl, rfl⟩
 ·exact .inl ⟨h4, by simp, hw.tail⟩
 ·exact .inr ⟨h4, vq, by simp, hw⟩)
end
def enterC (rd : Int → Option Pg) (met : List Int) (n : Int) : Option Pg := if n ∈ met then none else rd n
def chainC (rd : Int → Option Pg) : Nat → Int → Int → List Int → Int × List Int
 | 0, _, _, met => (0, met)
 | f + 1, left, n, met => if left ≤ 0 then (0, met) else match enterC rd met n with
  | none => (15, met)
  | some p => if ¬ p.kind = 3 then (15, n :: met) else if ¬ ((p.data.length : Int) = min 480 left ∧ (p.next = 0 ↔ left - min 480 left = 0)) then (5, n :: met) else chainC rd f (left - min 480 left) p.next (n :: met)
theorem chainC_done {rd : Int → Option Pg} {f : Nat} {left n : Int} {met : List Int} (h : left ≤ 0) : chainC rd f left n met = (0, met) := by
 cases f with
 | zero => rfl
 | succ f => rw [chainC, if_pos h]
def itemC (rd : Int → Option Pg) (x : It) (r : Rg) (s : List Int × Int) : Int × List Int × Int :=
 if ¬ hasR r x.key then (11, s) else if x.size ≤ 32 then (0, s.1, s.2 + 1) else ((chainC rd x.size.toNat x.size x.child s.1).1, (chainC rd x.size.toNat x.size x.child s.1).2, s.2 + 1)
def ownR (p : Pg) (i : Nat) : Rg := ⟨keyAt p.items i, if i + 1 < p.items.length then keyAt p.items (i + 1) else [], decide (¬ i + 1 < p.items.length)⟩
def foldC {α : Type} (g : Nat → α → List Int × Int → Int × List Int × Int) : Nat → List α → List Int × Int → Int × List Int × Int
 | _, [], s => (0, s)
 | i, x :: l, s => if (g i x s).1 ≠ 0 then g i x s else foldC g (i + 1) l (g i x s).2
def wrongC (k : Nat) (p : Pg) : Prop := if k = 0 then ¬ p.kind = 1 else ¬ (p.kind = 2 ∧ p.level = k)
instance (k : Nat) (p : Pg) : Decidable (wrongC k p) := by unfold wrongC; infer_instance
def pageC (rd : Int → Option Pg) : Nat → Int → Int → Rg → List Int × Int → Int × List Int × Int
 | k, n, least, r, s => match enterC rd s.1 n with
  | none => (15, s)
  | some p => if wrongC k p then (15, n :: s.1, s.2) else if (p.items.length : Int) < least then (5, n :: s.1, s.2) else
   match k with
   | 0 => foldC (fun _ x s => itemC rd x r s) 0 p.items (n :: s.1, s.2)
   | k + 1 => foldC (fun i x s => pageC rd k x.child 4 (meetR r (ownR p i)) s) 0 p.items (n :: s.1, s.2)
structure RvIs (rd : Int → Option Pg) (v : RvV) (S : List PgV) : Prop where
 one : 1 ≤ v.c.length
 len : v.c.length ≤ 65536
 llen : v.l.length = v.c.length
 plen : v.p.length = v.c.length
 no : ∀ n, ¬ 0 < cntP v.c n → rd n = none
 yes : ∀ n, 0 < cntP v.c n → ∃ pg, v.p[(n - 1).toNat]? = some pg ∧ pg ∈ S ∧ pg.Sm ∧ rd n = some pg.pg ∧ checkP pg.pg = 0
theorem RvIs.th {rd : Int → Option Pg} {v : RvV} {S : List PgV} (h : RvIs rd v S) {n : Int} (hn : rd n ≠ none) : 0 < cntP v.c n := Decidable.byContradiction fun hc => hn (h.no n hc)
theorem cntP_in {c : List Int} {n : Int} (h : 0 < cntP c n) : 1 ≤ n ∧ n ≤ (c.length : Int) := by
 unfold cntP at h
 split at h
 ·assumption
 omega
def MetL (v : RvV) (ml : List Bool) (met : List Int) : Prop := ml.length = v.c.length + 1 ∧ ∀ n, 0 < cntP v.c n → ml.getD n.toNat false = decide (n ∈ met)
theorem MetL.set {v : RvV} {ml : List Bool} {met : List Int} (h : MetL v ml met) {n : Int} (hn : 0 < cntP v.c n) : MetL v (ml.set n.toNat true) (n :: met) := by
 refine ⟨by rw [List.length_set]; exact h.1, fun j hj => ?_⟩
 have h1 := cntP_in hn
 have h2 := cntP_in hj
 have h3 := h.1
 rw [List.getD_eq_getElem?_getD, List.getElem?_set]
 by_cases hjn : n = j
 ·subst hjn
  rw [if_pos rfl, if_pos (by omega)]; simp
 rw [if_neg (by omega), ← List.getD_eq_getElem?_getD, h.2 j hj]
 have : ¬ j = n := fun h => hjn h.symm
 simp [this]
theorem keyR {p : Pg} {k : Nat} {x : It} (h : p.items[k]? = some x) : keyAt p.items k = x.key := by unfold keyAt; rw [h]; rfl
theorem RvIs.enter {rd : Int → Option Pg} {v : RvV} {S : List PgV} (h : RvIs rd v S) {met : List Int} {n : Int} {p : Pg} (he : enterC rd met n = some p) : ∃ pg, v.p[(n - 1).toNat]? = some pg ∧ pg ∈ S ∧ pg.Sm ∧ p = pg.pg ∧ (1 ≤ n ∧ n ≤ (v.p.length : Int)) ∧ checkP p = 0 := by
 unfold enterC at he
 split at he
 ·cases he
 have hc := h.th (n := n) (by rw [he]; simp)
 obtain ⟨pg, h1, h2, h3, h4, h5⟩ := h.yes n hc
 rw [he] at h4
 cases h4
 exact ⟨pg, h1, h2, h3, rfl, by rw [h.plen]; exact cntP_in hc, h5⟩
theorem RvIs.pv {rd : Int → Option Pg} {v : RvV} {S : List PgV} (h : RvIs rd v S) {q : Nat} {G : Gh} {L : List Assn} {w : World} (hw : Sat G (rvP q v L) w) : ∃ pb pc, v.pv = .slice (some ⟨pb, 0, none⟩) v.p.length pc := by
 have h1 := h.one
 have h2 := h.plen
 have hz := hw.pick (A := row 75 5 v.pv v.p.length _) (.there (.there (.there .here)))
 obtain ⟨pa, pc, h3⟩ := row_form hz
 rw [h3] at hz
 obtain ⟨-, pb, -, h4, -⟩ := row_some hz (by omega)
 exact ⟨pb, pc, by rw [h3, h4]⟩
section
variable {G : Gh} {L R : List Assn} {w : World}
theorem ct_ck_enter {cq q mb nm mc : Nat} {keys n : Int} {v : RvV} {ml : List Bool} {met : List Int} {rd : Int → Option Pg} {S : List PgV} (hI : RvIs rd v S) (hw : Sat G (blk cq [.pointer (some ⟨q, 0, none⟩), .slice (some ⟨mb, 0, none⟩) nm mc, .int .i64 keys] 139 :: row 4 1 (.slice (some ⟨mb, 0, none⟩) nm mc) nm (bls ml) :: rvP q v L) w) (hm : MetL v ml met) (hnm : nm = v.c.length + 1) :
  Calls Tryz.prog 107 #[.pointer (some ⟨cq, 0, none⟩), .int .i64 n] w (Ret fun r w' => ∃ ml', r = .bool (decide (enterC rd met n ≠ none)) ∧ MetL v ml' (if (enterC rd met n).isSome then n :: met else met) ∧
   (∀ p, enterC rd met n = some p → 0 < cntP v.c n ∧ n ∉ met) ∧
   Sat G (blk cq [.pointer (some ⟨q, 0, none⟩), .slice (some ⟨mb, 0, none⟩) nm mc, .int .i64 keys] 139 :: row 4 1 (.slice (some ⟨mb, 0, none⟩) nm mc) nm (bls ml') :: rvP q v L) w') := by
 refine ret_mono (ct_ref14_check_enter (n := n) hw hI.len (by rw [hm.1, hnm]) hnm) fun r w' hr => ?_
 rcases hr with ⟨h1, h2, h3⟩ | ⟨h1, h2, h3⟩
 ·have e : enterC rd met n = none := by
   unfold enterC
   by_cases hc : 0 < cntP v.c n
   ·have h4 := h1.resolve_left (fun h => h hc)
    rw [hm.2 n hc] at h4
    rw [if_pos (by simpa using h4)]
   rw [hI.no n hc]; simp
  refine ⟨ml, by rw [e, h2]; simp, by rw [e]; exact hm, (fun p hp => by rw [e] at hp; cases hp), h3⟩
 have hc : 0 < cntP v.c n := Decidable.byContradiction fun h => h1 (.inl h)
 have h4 : ¬ ml.getD n.toNat false = true := fun h => h1 (.inr h)
 rw [hm.2 n hc] at h4
 have h5 : n ∉ met := by simpa using h4
 obtain ⟨pg, -, -, -, h6, -⟩ := hI.yes n hc
 have e : enterC rd met n = some pg.pg := by unfold enterC; rw [if_neg h5, h6]
 exact ⟨ml.set n.toNat true, by rw [e, h2]; simp, by rw [e]; exact hm.set hc, fun p hp => ⟨hc, h5⟩, h3⟩
theorem ct_ref14_check_item {cq q mb nm mc : Nat} {keys : Int} {v : RvV} {ml : List Bool} {met : List Int} {rd : Int → Option Pg} {S : List PgV} {x : ItV} {r : RgV} (hI : RvIs rd v S) (hw : Sat G (blk cq [.pointer (some ⟨q, 0, none⟩), .slice (some ⟨mb, 0, none⟩) nm mc, .int .i64 keys] 139 :: row 4 1 (.slice (some ⟨mb, 0, none⟩) nm mc) nm (bls ml) :: rvP q v (stO S :: L)) w) (hm : MetL v ml met) (hnm : nm = v.c.length + 1) (hk : 0 ≤ keys ∧ keys ≤ 1000000000) (hx : x.Ok (stO S :: L)) (hxs : x.it.size ≤ 1000000000) (hr : r.Ok (stO S :: L)) :
  Calls Tryz.prog 108 #[.pointer (some ⟨cq, 0, none⟩), .agg x.cells.toArray, .agg r.cells.toArray] w (Ret fun u w' => ∃ ml', u = .int .i64 (itemC rd x.it r.rg (met, keys)).1 ∧ MetL v ml' (itemC rd x.it r.rg (met, keys)).2.1 ∧
   Sat G (blk cq [.pointer (some ⟨q, 0, none⟩), .slice (some ⟨mb, 0, none⟩) nm mc, .int .i64 (itemC rd x.it r.rg (met, keys)).2.2] 139 :: row 4 1 (.slice (some ⟨mb, 0, none⟩) nm mc) nm (bls ml') :: rvP q v (stO S :: L)) w') := by
 obtain ⟨pb, pc, hpv⟩ := hI.pv (hw.b [blk q _ _, row 3 _ _ _ _, row 4 1 v.lv _ _, row 75 _ _ _ _])
 have hN := hI.len
 have hP := hI.plen
 have hsl : ∀ R, Knows (row 75 5 v.pv v.p.length (v.p.map PgV.cells).flatten :: R) (SlT 5 (.slice (some ⟨pb, 0, none⟩) v.p.length pc) (v.p.map PgV.cells)) := fun R => by
  rw [hpv]; exact (SlT.row (by simp) (pgs_z v.p)).head R
 refine calls_of_x (args := [_, _, _]) Tryz.func108 rfl Tryz.ntmps108 rfl rfl ?_
 refine z2 ?_
 refine x_box rfl rfl trivial rfl rfl hw rfl (fun w b4 hw => ?_)
 refine x_box rfl rfl trivial rfl rfl hw rfl (fun w b5 hw => ?_)
 refine z5 ?_
 refine lA (l := r.cells) many_api_Range hw ?_
 refine z1 ?_
 refine lD (v := x.kv) one_sl_uint8 hw ?_
 refine x_call rfl rfl trivial cal_ref04_Has rfl (ct_ref04_Has (r := r) (k := x.it.key) hw (hr.of sF) (hx.k.of sF) hx.sk) rfl (fun w v14 hv => ?_)
 obtain ⟨rfl, hw⟩ := hv
 refine x_notp rfl rfl trivial rfl ?_
 refine xl_nil ?_
 refine x_if rfl (fun h1 => ?_) (fun h1 => ?_)
 ·
  refine z5 ?_
  exact end1 rfl rfl rfl (by
 have e : itemC rd x.it r.rg (met, keys) = (11, met, keys) := by unfold itemC; rw [if_pos (by simpa using h1)]
 rw [e]
 exact ⟨ml, rfl, hm, (hw.b [blk b5 _ _, blk b4 _ _]).tail.tail⟩)
 have hhas : hasR r.rg x.it.key := by simpa using h1
 refine z6 ?_
 refine lD (v := .int .i64 keys) one_int hw ?_
 refine z3 ?_
 refine x_st1 (l' := [.pointer (some ⟨q, 0, none⟩), .slice (some ⟨mb, 0, none⟩) nm mc, .int .i64 (keys + 1)]) rfl trivial rfl rfl one_int rfl hw pK rfl rfl rfl (fun w hw => ?_)
 refine z5 ?_
 refine lD (v := .int .i64 x.it.size) one_int hw ?_
 refine z2 ?_
 refine x_if rfl (fun h2 => ?_) (fun h2 => ?_)
 ·
  refine z5 ?_
  exact end1 rfl rfl rfl (by
 have e : itemC rd x.it r.rg (met, keys) = (0, met, keys + 1) := by unfold itemC; rw [if_neg (not_not_intro hhas), if_pos h2]
 rw [e]
 exact ⟨ml, rfl, hm, (hw.b [blk b5 _ _, blk b4 _ _, blk cq _ _, row 4 1 (.slice (some ⟨mb, 0, none⟩) nm mc) _ _]).tail.tail⟩)
 have e : itemC rd x.it r.rg (met, keys) = ((chainC rd x.it.size.toNat x.it.size x.it.child met).1, (chainC rd x.it.size.toNat x.it.size x.it.child met).2, keys + 1) := by unfold itemC; rw [if_neg (not_not_intro hhas), if_neg h2]
 rw [e]
 refine z4 ?_
 refine lD (v := .int .i64 x.it.size) one_int hw ?_
 refine z5 ?_
 refine lD (v := .int .i64 x.it.child) one_int hw ?_
 refine z4 ?_
 have hz := (hw.b [blk b5 _ _, blk b4 _ _, blk cq _ _, row 4 1 (.slice (some ⟨mb, 0, none⟩) nm mc) _ _, blk q _ _, row 3 _ _ _ _, row 4 1 v.lv _ _, row 75 _ _ _ _]).tail.tail
 clear hw
 have hw := hz
 clear hz
 refine x_loop (fun m e w => ∃ (f : Nat) (left n : Int) (met' : List Int) (ml' : List Bool), m = f + 1 ∧ e = [(0, .pointer (some ⟨cq, 0, none⟩)), (7, .int .i64 left), (8, .int .i64 n)] ∧ (left ≤ f ∧ left ≤ 1000000000 ∧ 0 ≤ left ∧ MetL v ml' met' ∧ chainC rd x.it.size.toNat x.it.size x.it.child met = chainC rd f left n met') ∧ Sat G (blk cq [.pointer (some ⟨q, 0, none⟩), .slice (some ⟨mb, 0, none⟩) nm mc, .int .i64 (keys + 1)] 139 :: row 4 1 (.slice (some ⟨mb, 0, none⟩) nm mc) nm (bls ml') :: rvP q v (stO S :: L)) w)
  (m := x.it.size.toNat + 1) (e₀ := [(0, .pointer (some ⟨cq, 0, none⟩)), (7, .int .i64 x.it.size), (8, .int .i64 x.it.child)]) sB
  ⟨x.it.size.toNat, x.it.size, x.it.child, met, ml, rfl, rfl, ⟨by omega, hxs, by omega, hm, rfl⟩, hw⟩ ?_
 rintro m e w ⟨f, left, n, met', ml', rfl, rfl, ⟨hlf, hl9, hl0, hml, hch⟩, hw⟩
 refine z6 ?_
 refine x_if rfl (fun h3 => ?_) (fun h3 => ?_)
 ·
  obtain ⟨f, rfl⟩ : ∃ g, f = g + 1 := ⟨f - 1, by omega⟩
  rw [chainC, if_neg (by omega)] at hch
  refine z7 ?_
  refine x_call rfl rfl trivial cal_ref14_check_enter rfl (ct_ck_enter (n := n) (met := met') hI hw hml hnm) rfl (fun w v34 hv => ?_)
  obtain ⟨ml2, rfl, hm2, hent, hw⟩ := hv
  refine x_notp rfl rfl trivial rfl ?_
  refine z1 ?_
  refine xl_and (l1 := [5, 6, 7, 8, 9, 10, 11, 12, 13, 14, 15, 16, 17, 18]) (l2 := []) rfl (d := 50) (¬ (enterC rd met' n).map Pg.kind = some 3) rfl ?_ ?_
  ·
   refine xl_split (d := 36) rfl (fun h4 => ?_) (fun h4 => ?_)
   ·
    refine z15 ?_
    refine cQ ?_
    first | exact (decide_eq_true (by have h5 : enterC rd met' n = none := Decidable.not_not.1 h4
                                      rw [h5]; simp)).symm | (rw [hp]; refine decide_eq_decide.2 ?_; show ¬ pg.kind = 3 ↔ ¬ some pg.kind = some 3; simp)
   obtain ⟨p, hp⟩ : ∃ p, enterC rd met' n = some p := Option.ne_none_iff_exists'.1 (Decidable.not_not.1 h4)
   obtain ⟨pg, hpg, hpS, hpm, rfl, hin, hck⟩ := hI.enter hp
   have hpr : (v.p.map PgV.cells)[(n - 1).toNat]? = some pg.cells := by rw [List.getElem?_map, hpg]; rfl
   refine z1 ?_
   refine x_nc rfl rfl ⟨_, rfl, rfl⟩ rfl ?_
   refine z1 ?_
   refine lD (v := .pointer (some ⟨q, 0, none⟩)) one_p_coppiceref11_Vault hw ?_
   refine x_nc rfl rfl ⟨_, rfl, rfl⟩ rfl ?_
   refine z1 ?_
   refine x_ld rfl rfl ⟨_, rfl, rfl⟩ rfl (Loads.blk1 (v := .slice (some ⟨pb, 0, none⟩) v.p.length pc) one_sl_api_Page hw pK (by rw [← hpv]; rfl)) ?_
   refine z1 ?_
   refine x_subi rfl rfl ⟨_, rfl, rfl⟩ rfl rfl (by omega) ?_
   refine x_idx rfl rfl ⟨_, rfl, rfl⟩ U_sl_api_Page sz_api_Page rfl rfl ⟨by omega, by omega⟩ ?_
   refine x_fldk rfl rfl ⟨_, rfl, rfl⟩ fo_api_Page_0 rfl ?_
   refine x_ld rfl rfl ⟨_, rfl, rfl⟩ rfl (Loads.one (v := .int .i64 pg.kind) one_int (by have h := ((((hsl _).of sF).at hw).at hpr) 0 _ rfl; rwa [add_lit] at h)) ?_
   refine z3 ?_
   refine cQ ?_
   first | exact (decide_eq_true (by have h5 : enterC rd met' n = none := Decidable.not_not.1 h4
                                     rw [h5]; simp)).symm | (rw [hp]; refine decide_eq_decide.2 ?_; show ¬ pg.kind = 3 ↔ ¬ some pg.kind = some 3; simp)
  refine xl_nil ?_
  refine x_if rfl (fun h5 => ?_) (fun h5 => ?_)
  ·
   refine z5 ?_
   exact end1 rfl rfl rfl (by
 have e2 : chainC rd x.it.size.toNat x.it.size x.it.child met = (15, if (enterC rd met' n).isSome then n :: met' else met') := by
  rw [hch]
  cases he : enterC rd met' n with
  | none => rfl
  | some p =>
   rw [he] at h5
   simp only
   rw [if_pos (by simpa using h5)]
   rfl
 rw [e2]
 exact ⟨ml2, rfl, hm2, hw⟩)
  obtain ⟨p, hp⟩ : ∃ p, enterC rd met' n = some p := by
   cases he : enterC rd met' n with
   | none => rw [he] at h5; simp at h5
   | some p => exact ⟨p, rfl⟩
  rw [hp] at h5 hm2 hch
  obtain ⟨pg, hpg, hpS, hpm, rfl, hin, hck⟩ := hI.enter hp
  have hpr : (v.p.map PgV.cells)[(n - 1).toNat]? = some pg.cells := by rw [List.getElem?_map, hpg]; rfl
  have hk3 : pg.pg.kind = 3 := by simpa using h5
  simp only at hch
  rw [if_neg (not_not_intro hk3)] at hch
  refine z6 ?_
  refine lD (v := .pointer (some ⟨q, 0, none⟩)) one_p_coppiceref11_Vault hw ?_
  refine z2 ?_
  refine x_ld rfl rfl trivial rfl (Loads.blk1 (v := .slice (some ⟨pb, 0, none⟩) v.p.length pc) one_sl_api_Page hw pK (by rw [← hpv]; rfl)) ?_
  refine z2 ?_
  refine x_idx rfl rfl trivial U_sl_api_Page sz_api_Page rfl rfl ⟨by omega, by omega⟩ ?_
  refine x_ld rfl rfl trivial rfl (Loads.many (cs := pg.cells) many_api_Page rfl ((((hsl _).of sF).at hw).at hpr)) ?_
  refine x_alloc rfl rfl trivial z_api_Page hw rfl (fun w b9 hw => ?_)
  refine x_stN (cs := pg.cells) (l' := pg.cells) rfl trivial rfl rfl many_api_Page rfl (ones_pg (stO_ok hpS hpm pK) hw) hw pK (by simp [PgV.cells]) rfl rfl (fun w hw => ?_)
  obtain ⟨da, dc, hd⟩ := ((stO_ok hpS hpm pK).data.at hw).form
  refine z4 ?_
  refine x_min2 rfl rfl trivial rfl rfl ?_
  refine z13 ?_
  refine x_ld rfl rfl trivial rfl (Loads.blk1 (v := .slice da pg.data.length dc) one_sl_uint8 hw pK (by rw [← hd]; rfl)) ?_
  refine z4 ?_
  refine xl_and (l1 := [6, 7, 8, 9, 10, 11, 12]) (l2 := []) rfl (d := 79) (¬ ((pg.data.length : Int) = min 480 left ∧ (pg.next = 0 ↔ left - min 480 left = 0))) rfl ?_ ?_
  ·
   refine xl_split (d := 72) rfl (fun h6 => ?_) (fun h6 => ?_)
   ·
    refine z8 ?_
    refine cQ ?_
    first | (symm; rw [decide_eq_true_eq]; exact fun h => h6 h.1) | exact decide_eq_decide.2 ⟨fun h h2 => h (decide_eq_decide.2 h2.2), fun h h2 => h ⟨Decidable.not_not.1 h6, decide_eq_decide.1 h2⟩⟩
   refine z1 ?_
   refine lD (v := .int .i64 pg.next) one_int hw ?_
   refine z3 ?_
   refine x_neb rfl rfl ⟨_, rfl, rfl⟩ (by kernel_rfl) U_bool rfl rfl ?_
   refine z2 ?_
   refine cQ ?_
   first | (symm; rw [decide_eq_true_eq]; exact fun h => h6 h.1) | exact decide_eq_decide.2 ⟨fun h h2 => h (decide_eq_decide.2 h2.2), fun h h2 => h ⟨Decidable.not_not.1 h6, decide_eq_decide.1 h2⟩⟩
  refine xl_nil ?_
  refine x_if rfl (fun h7 => ?_) (fun h7 => ?_)
  ·
   refine z5 ?_
   exact end1 rfl rfl rfl (by
 rw [if_pos (show ¬ ((pg.pg.data.length : Int) = min 480 left ∧ (pg.pg.next = 0 ↔ left - min 480 left = 0)) from h7)] at hch
 rw [hch]
 exact ⟨ml2, rfl, hm2, (hw.b [blk b9 _ _]).tail⟩)
  rw [if_neg (show ¬ ¬ ((pg.pg.data.length : Int) = min 480 left ∧ (pg.pg.next = 0 ↔ left - min 480 left = 0)) from h7)] at hch
  refine z3 ?_
  refine lD (v := .int .i64 pg.next) one_int hw ?_
  refine z2 ?_
  exact ⟨f + 1, by omega, [(0, _), (7, _), (8, _)], sB, f, left - min 480 left, pg.next, n :: met', ml2, rfl, rfl, ⟨by omega, by omega, by omega, hm2, hch⟩, (hw.b [blk b9 _ _]).tail⟩
 refine z6 ?_
 exact end1 rfl rfl rfl (by
 rw [hch, chainC_done (by omega)]
 exact ⟨ml', rfl, hml, hw⟩)
end
theorem ownR_last {p : Pg} {i : Nat} {x : It} (h : p.items[i]? = some x) (hl : ¬ i + 1 < p.items.length) : ownR p i = ⟨x.key, [], true⟩ := by
 unfold ownR; rw [keyR h, if_neg hl, decide_eq_true hl]
theorem ownR_more {p : Pg} {i : Nat} {x y : It} (h : p.items[i]? = some x) (h2 : p.items[i + 1]? = some y) : ownR p i = ⟨x.key, y.key, false⟩ := by
 have hl : i + 1 < p.items.length := (List.getElem?_eq_some_iff.1 h2).1
 unfold ownR; rw [keyR h, if_pos hl, keyR h2, decide_eq_false (not_not_intro hl)]
section
variable {G : Gh} {L R : List Assn} {w : World}
theorem ct_ref14_Within {p : PgV} {i : Nat} {r : RgV} (hw : Sat G L w) (hp : p.Ok L) (hr : r.Ok L) (hi : i < p.l.length) (hl : p.l.length ≤ 1000000000) : Calls Tryz.prog 109 #[.agg p.cells.toArray, .int .i64 i, .agg r.cells.toArray] w (Ret fun u w' => ∃ r' : RgV, u = .agg r'.cells.toArray ∧ r'.rg = meetR r.rg (ownR p.pg i) ∧ Small r'.rg.lo ∧ Small r'.rg.hi ∧ Ones r'.cells ∧ Sat G (rgParts r' ++ L) w') := by
 obtain ⟨ia, ic, hs, -, -⟩ := (hp.its.sl.at hw).form
 rw [List.length_map] at hs
 have hsl : Knows L (SlT 4 (.slice ia p.l.length ic) (p.l.map ItV.cells)) := by rw [← hs]; exact hp.its.sl
 obtain ⟨ib, io, rfl⟩ := (hsl.at hw).nn (by rw [List.length_map]; omega)
 obtain ⟨x, hx⟩ : ∃ x, p.l[i]? = some x := ⟨_, List.getElem?_eq_getElem hi⟩
 have hxr : (p.l.map ItV.cells)[i]? = some x.cells := by rw [List.getElem?_map, hx]; rfl
 have hxi : p.pg.items[i]? = some x.it := by show (p.l.map ItV.it)[_]? = _; rw [List.getElem?_map, hx]; rfl
 have hxo := hp.its.it x (List.mem_of_getElem? hx)
 have hpl : p.pg.items.length = p.l.length := by simp [PgV.pg]
 obtain ⟨ka, kc, hkv⟩ := (hxo.k.at hw).form
 refine calls_of_x (args := [_, _, _]) Tryz.func109 rfl Tryz.ntmps109 rfl rfl ?_
 refine z2 ?_
 refine x_box rfl rfl trivial rfl rfl hw rfl (fun w b3 hw => ?_)
 refine x_box rfl rfl trivial rfl rfl hw rfl (fun w b5 hw => ?_)
 refine x_alloc rfl rfl trivial z_api_Range hw rfl (fun w b6 hw => ?_)
 refine z4 ?_
 refine x_ld rfl rfl trivial rfl (Loads.blk1 (v := .slice (some ⟨ib, io, none⟩) p.l.length ic) one_sl_api_Item hw pK (by rw [← hs]; rfl)) ?_
 refine z1 ?_
 refine x_idx rfl rfl trivial U_sl_api_Item sz_api_Item rfl rfl ⟨by omega, by omega⟩ ?_
 refine x_fldk rfl rfl trivial fo_api_Item_0 rfl ?_
 refine x_ld rfl rfl trivial rfl (Loads.one (v := .slice ka x.it.key.length kc) one_sl_uint8 (by rw [← hkv]; exact ((hsl.of sF).at hw).cell (j := 0) hxr rfl)) ?_
 refine x_build (v := .agg #[.slice ka x.it.key.length kc, .slice none 0 0, .bool true]) rfl rfl trivial rfl (fun w => by kernel_rfl) ?_
 refine x_alloc rfl rfl trivial z_api_Range hw rfl (fun w b7 hw => ?_)
 refine x_stN (cs := [.slice ka x.it.key.length kc, .slice none 0 0, .bool true]) (l' := [.slice ka x.it.key.length kc, .slice none 0 0, .bool true]) rfl trivial rfl rfl many_api_Range rfl (by intro u hu; simp at hu; rcases hu with rfl | rfl | rfl <;> rfl) hw pK (by simp) rfl rfl (fun w hw => ?_)
 refine z7 ?_
 refine x_ld rfl rfl trivial rfl (Loads.blk1 (v := .slice (some ⟨ib, io, none⟩) p.l.length ic) one_sl_api_Item hw pK (by rw [← hs]; rfl)) ?_
 refine z3 ?_
 refine x_if rfl (fun h1 => ?_) (fun h1 => ?_)
 ·
  obtain ⟨y, hy⟩ : ∃ y, p.l[i + 1]? = some y := ⟨_, List.getElem?_eq_getElem (by omega)⟩
  have hyr : (p.l.map ItV.cells)[i + 1]? = some y.cells := by rw [List.getElem?_map, hy]; rfl
  have hyi : p.pg.items[i + 1]? = some y.it := by show (p.l.map ItV.it)[_]? = _; rw [List.getElem?_map, hy]; rfl
  have hyo := hp.its.it y (List.mem_of_getElem? hy)
  obtain ⟨la, lc, hlv⟩ := (hyo.k.at hw.tail.tail.tail.tail).form
  refine z3 ?_
  refine x_st1 (l' := [.slice ka x.it.key.length kc, .slice none 0 0, .bool false]) rfl trivial rfl rfl one_bool rfl hw pK rfl rfl rfl (fun w hw => ?_)
  refine z3 ?_
  refine x_ld rfl rfl trivial rfl (Loads.blk1 (v := .slice (some ⟨ib, io, none⟩) p.l.length ic) one_sl_api_Item hw pK (by rw [← hs]; rfl)) ?_
  refine z2 ?_
  refine x_idx rfl rfl trivial U_sl_api_Item sz_api_Item rfl rfl ⟨by omega, by omega⟩ ?_
  refine x_fldk rfl rfl trivial fo_api_Item_0 rfl ?_
  refine x_ld rfl rfl trivial rfl (Loads.one (v := .slice la y.it.key.length lc) one_sl_uint8 (by rw [← hlv]; exact ((hsl.of sF).at hw).cell (j := 0) hyr rfl)) ?_
  refine z1 ?_
  refine x_st1 (l' := [.slice ka x.it.key.length kc, .slice la y.it.key.length lc, .bool false]) rfl trivial rfl rfl one_sl_uint8 rfl hw pK rfl rfl rfl (fun w hw => ?_)
  refine z3 ?_
  refine lA (l := r.cells) many_api_Range hw ?_
  refine lA (l := [.slice ka x.it.key.length kc, .slice la y.it.key.length lc, .bool false]) many_api_Range hw ?_
  refine x_call rfl rfl trivial cal_ref04_Meet rfl (ct_ref04_Meet (a := r) (b := ⟨⟨x.it.key, y.it.key, false⟩, .slice ka x.it.key.length kc, .slice la y.it.key.length lc⟩) hw (hr.of sF) ⟨by rw [← hkv]; exact hxo.k.of sF, by rw [← hlv]; exact hyo.k.of sF, hxo.sk, hyo.sk⟩) rfl (fun w v32 hv => ?_)
  obtain ⟨r', rfl, hr', hr1, hw⟩ := hv
  have hsm := meet_small hr.sl hr.sh (b := ⟨x.it.key, y.it.key, false⟩) hxo.sk hyo.sk
  refine x_stN (cs := r'.cells) (l' := r'.cells) rfl trivial rfl rfl many_api_Range rfl hr1 hw pK (by simp [RgV.cells]) rfl rfl (fun w hw => ?_)
  refine z2 ?_
  refine end1 rfl rfl ⟨_, rfl, (Loads.blkA (l := r'.cells) many_api_Range hw pK rfl)⟩ ⟨r', rfl, by rw [ownR_more hxi hyi]; exact hr', by rw [hr']; exact hsm.1, by rw [hr']; exact hsm.2, hr1, ?_⟩
  have hz := (hw.b [blk b6 _ _, row 5 1 r'.lv _ _, row 5 1 r'.hv _ _, blk b7 _ _, blk b5 _ _, blk b3 _ _])
  exact (hz.b [blk b6 _ _, blk b7 _ _, blk b5 _ _, blk b3 _ _]).tail.tail.tail.tail
 refine z3 ?_
 refine lA (l := r.cells) many_api_Range hw ?_
 refine lA (l := [.slice ka x.it.key.length kc, .slice none 0 0, .bool true]) many_api_Range hw ?_
 refine x_call rfl rfl trivial cal_ref04_Meet rfl (ct_ref04_Meet (a := r) (b := ⟨⟨x.it.key, [], true⟩, .slice ka x.it.key.length kc, .slice none 0 0⟩) hw (hr.of sF) ⟨by rw [← hkv]; exact hxo.k.of sF, nilB, hxo.sk, small_nil⟩) rfl (fun w v32 hv => ?_)
 obtain ⟨r', rfl, hr', hr1, hw⟩ := hv
 have hsm := meet_small hr.sl hr.sh (b := ⟨x.it.key, [], true⟩) hxo.sk small_nil
 refine x_stN (cs := r'.cells) (l' := r'.cells) rfl trivial rfl rfl many_api_Range rfl hr1 hw pK (by simp [RgV.cells]) rfl rfl (fun w hw => ?_)
 refine z2 ?_
 refine end1 rfl rfl ⟨_, rfl, (Loads.blkA (l := r'.cells) many_api_Range hw pK rfl)⟩ ⟨r', rfl, by rw [ownR_last hxi (by omega)]; exact hr', by rw [hr']; exact hsm.1, by rw [hr']; exact hsm.2, hr1, ?_⟩
 exact (hw.b [blk b6 _ _, blk b7 _ _, blk b5 _ _, blk b3 _ _]).tail.tail.tail.tail
end
end Go.Proofs.YteifbglognfgdaaGreatDoor.X
