/- DiskKeeps: the plain facts. -/
import Derived.Test.YtekilljcoplacaaXLaw6i
namespace Go.Proofs.Ytekilljcoplacaa.X
set_option linter.unusedVariables false
set_option linter.unusedSimpArgs false

/-- A disk with the power on and no alarm. -/
structure Calm (D : Dk) : Prop where
  on : D.on = true
  alarm : D.alarm = -1

theorem keeps_on {E : Dk} (hon : E.on = true) : Calm (E.arm (-1)) ∧ (E.arm (-1)).wrote = E.wrote ∧ (E.arm (-1)).synced = E.synced := by
  unfold Dk.arm; rw [if_pos hon]; exact ⟨⟨hon, by simp⟩, rfl, rfl⟩
theorem arm_on {E : Dk} {n : Int} : (E.arm n).on = E.on := by unfold Dk.arm; split <;> rfl
theorem keeps_off {E : Dk} (hok : E.Ok) (hoff : E.on = false) : Calm ((E.arm (-1)).onK []) ∧ ((E.arm (-1)).onK []).wrote = E.wrote ∧ ((E.arm (-1)).onK []).synced = E.synced := by
  have h := hok.off hoff
  have h1 : E.arm (-1) = E := by unfold Dk.arm; rw [if_neg (by simp [hoff])]
  have h2 : E.onK [] = ⟨settleL (keepQ []) E.ws 0 E.lasts, [], true, E.alarm, E.wrote, E.synced⟩ := by unfold Dk.onK; rw [if_neg (by simp [hoff])]
  rw [h1, h2]
  exact ⟨⟨rfl, h⟩, rfl, rfl⟩
theorem calm_sync {D : Dk} (h : Calm D) : ∃ S : Dk, D.sync = (0, S) ∧ Calm S ∧ S.ws = [] ∧ S.wrote = D.wrote ∧ S.lasts.length = D.lasts.length := by
  refine ⟨⟨settleL (fun _ => true) D.ws 0 D.lasts, [], D.on, -1, D.wrote, D.synced + 1⟩, ?_, ⟨h.on, rfl⟩, rfl, rfl, settleL_length ..⟩
  unfold Dk.sync
  rw [if_neg (by simp [h.on]), if_neg (by simp [h.alarm])]
  simp [Dk.settled, Dk.tick, h.alarm]

/-- The writes that were done, of a row of calls. -/
structure Wrote (S D : Dk) (wr : List OpV) : Prop where
  calm : Calm D
  lasts : D.lasts = S.lasts
  ws : D.ws = wr.map fun o => (o.i.toNat, o.bl)
  each : ∀ o ∈ wr, (0 ≤ o.i ∧ o.i < S.lasts.length) ∧ o.bl.length = 512
theorem Wrote.nil {S : Dk} (h : Calm S) (hw : S.ws = []) : Wrote S S [] := ⟨h, rfl, by simp [hw], by simp⟩
theorem Wrote.step {S D : Dk} {wr : List OpV} (h : Wrote S D wr) (o : OpV) :
    ((D.write o.i o.bl).1 = 0 ∧ Wrote S (D.write o.i o.bl).2 (wr ++ [o]) ∧ (D.write o.i o.bl).2.wrote = D.wrote + 1) ∨ ((D.write o.i o.bl).1 ≠ 0 ∧ (D.write o.i o.bl).2 = D) := by
  have hal := h.calm.alarm
  unfold Dk.write
  rw [if_neg (by simp [h.calm.on])]
  split
  · exact .inr ⟨by simp, rfl⟩
  · rename_i hin
    split
    · exact .inr ⟨by simp, rfl⟩
    · rename_i hl
      rw [if_neg (by rw [hal]; decide)]
      refine .inl ⟨rfl, ⟨⟨h.calm.on, by simp [Dk.wr, Dk.tick, hal]⟩, h.lasts, by simp [Dk.wr, h.ws], fun x hx => ?_⟩, rfl⟩
      rcases List.mem_append.1 hx with hx | hx
      · exact h.each x hx
      · simp at hx; subst hx
        exact ⟨by rw [← h.lasts]; exact Decidable.not_not.1 hin, Decidable.not_not.1 hl⟩

theorem settle_beyond (kl : List Bool) : ∀ (ws : List (Nat × Bys)) (k : Nat) (l : List Bys), kl.length ≤ k → settleL (keepQ kl) ws k l = l
  | [], _, _, _ => rfl
  | (i, c) :: r, k, l, h => by
    have : keepQ kl k = false := by simp [keepQ, h]
    simp only [settleL, this]
    exact settle_beyond kl r (k + 1) l (by omega)
theorem settle_append (q : Nat → Bool) : ∀ (a b : List (Nat × Bys)) (k : Nat) (l : List Bys), settleL q (a ++ b) k l = settleL q b (k + a.length) (settleL q a k l)
  | [], _, _, _ => rfl
  | (i, c) :: r, b, k, l => by
    simp only [List.cons_append, settleL, settle_append q r b, List.length_cons]
    rw [show k + 1 + r.length = k + (r.length + 1) by omega]
/-- .. so a prefix as long as what was told is all -/
theorem settle_prefix (kl : List Bool) (ws : List (Nat × Bys)) (l : List Bys) {k : Nat} (h : k = ws.length ∨ kl.length ≤ k) : settleL (keepQ kl) (ws.take k) 0 l = settleL (keepQ kl) ws 0 l := by
  rcases h with h | h
  · rw [h, List.take_length]
  · conv => rhs; rw [← List.take_append_drop k ws, settle_append]
    by_cases hk : k ≤ ws.length
    · rw [settle_beyond kl (ws.drop k) _ _ (by rw [List.length_take]; omega)]
    · rw [List.drop_eq_nil_of_le (by omega)]; rfl

/-- a byte put down behind those that were -/
theorem put_next {x c : List Value} {a j : Nat} (ha : a + c.length ≤ x.length) (hj : j < c.length) (v : Value) (hv : c[j]? = some v) :
    (x.take a ++ c.take j ++ x.drop (a + j)).set (a + j) v = x.take a ++ c.take (j + 1) ++ x.drop (a + (j + 1)) := by
  have h1 : (x.take a ++ c.take j).length = a + j := by simp; omega
  rw [List.set_append_right _ _ (by omega), h1, Nat.sub_self, List.take_add_one, hv]
  have h2 : x.drop (a + j) = x[a + j]'(by omega) :: x.drop (a + j + 1) := List.drop_eq_getElem_cons (by omega)
  rw [h2]
  simp [Nat.add_assoc]
end Go.Proofs.Ytekilljcoplacaa.X
