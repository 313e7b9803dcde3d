/- Clock, plainly: the definition's way to make room is the program's. -/
import Derived.Test.YtdnbpgakmbamoaaL6
namespace Go.Proofs.Ytdnbpgakmbamoaa.Ck
open Go Big Go.RowKit Go.IntWalk
set_option linter.unusedVariables false
set_option linter.unusedSimpArgs false
/-- One turn of the definition: up to the first slot that goes. -/
def innerF : Nat → Ca → Ca × Bool
  | 0, s => (s, false)
  | left + 1, s => match s.l[s.hand]? with
    | none => (s, false)
    | some x => if 0 < x.pins ∨ x.mark = true then innerF left (passS s x) else (goneS s s.hand, true)
theorem inner_pass {left : Nat} {s : Ca} {x : Slo} (hx : s.l[s.hand]? = some x) (hp : 0 < x.pins ∨ x.mark = true) : innerF (left + 1) s = innerF left (passS s x) := by
  show (match s.l[s.hand]? with
    | none => (s, false)
    | some x => if 0 < x.pins ∨ x.mark = true then innerF left (passS s x) else (goneS s s.hand, true)) = _
  rw [hx]
  exact if_pos hp
theorem inner_gone {left : Nat} {s : Ca} {x : Slo} (hx : s.l[s.hand]? = some x) (hp : ¬ (0 < x.pins ∨ x.mark = true)) : innerF (left + 1) s = (goneS s s.hand, true) := by
  show (match s.l[s.hand]? with
    | none => (s, false)
    | some x => if 0 < x.pins ∨ x.mark = true then innerF left (passS s x) else (goneS s s.hand, true)) = _
  rw [hx]
  exact if_neg hp
theorem hand_at {N : Nat} {s : Ca} (ho : Ok N s) (h : 0 < s.l.length) : ∃ x, s.l[s.hand]? = some x := by
  have := ho.hand
  exact ⟨_, List.getElem?_eq_getElem (by omega)⟩
theorem freeF_inner {N : Nat} {k : Int} : ∀ (left m : Nat) (s : Ca), Ok N s → ¬ k ≤ s.room - s.used → left ≤ 2 * s.l.length → fuelM s.l.length left < m →
    ((innerF left s).2 = true → ∃ m', fuelM (innerF left s).1.l.length (2 * (innerF left s).1.l.length) < m' ∧ freeF m s k left = freeF m' (innerF left s).1 k (2 * (innerF left s).1.l.length)) ∧
    ((innerF left s).2 = false → freeF m s k left = ((innerF left s).1, false)) ∧ Ok N (innerF left s).1 := by
  intro left
  induction left with
  | zero =>
    intro m s ho hk hl hm
    obtain ⟨m, rfl⟩ : ∃ m', m = m' + 1 := ⟨m - 1, by omega⟩
    exact ⟨fun h => (by cases h), fun _ => free_no hk rfl, ho⟩
  | succ left ih =>
    intro m s ho hk hl hm
    obtain ⟨m, rfl⟩ : ∃ m', m = m' + 1 := ⟨m - 1, by omega⟩
    obtain ⟨x, hx⟩ := hand_at ho (by omega)
    by_cases hp : 0 < x.pins ∨ x.mark = true
    · rw [inner_pass hx hp, free_pass hk (by omega) hx hp]
      obtain ⟨r1, r2, r3⟩ := round_l { s with l := s.l.set s.hand { x with mark := x.mark && decide (0 < x.pins) }, hand := s.hand + 1 }
      have hlen : (passS s x).l.length = s.l.length := pass_len
      refine ih m (passS s x) (ho.pass hx) ?_ (by rw [hlen]; omega) (by rw [hlen]; unfold fuelM at hm ⊢; omega)
      have e1 : (passS s x).room = s.room := r2
      have e2 : (passS s x).used = s.used := r3
      rw [e1, e2]; exact hk
    · rw [inner_gone hx hp, free_gone hk (by omega) hx hp]
      have hg := gone_len hx
      have hf := fuel_gone (len := s.l.length) (left := left + 1) (by omega) (by omega)
      refine ⟨fun _ => ⟨m, by rw [hg]; omega, rfl⟩, fun h => (by cases h), ho.gone hx⟩
theorem freeF_any {N : Nat} {k : Int} : ∀ (m m' : Nat) (s : Ca) (left : Nat), Ok N s → left ≤ 2 * s.l.length → fuelM s.l.length left < m → fuelM s.l.length left < m' → freeF m s k left = freeF m' s k left := by
  intro m
  induction m with
  | zero => intro m' s left _ _ h; omega
  | succ m ih =>
    intro m' s left ho hl hm hm'
    obtain ⟨m', rfl⟩ : ∃ q, m' = q + 1 := ⟨m' - 1, by omega⟩
    by_cases hk : k ≤ s.room - s.used
    · rw [free_yes hk, free_yes hk]
    · by_cases h0 : left = 0
      · rw [free_no hk h0, free_no hk h0]
      · obtain ⟨x, hx⟩ := hand_at ho (by omega)
        by_cases hp : 0 < x.pins ∨ x.mark = true
        · rw [free_pass hk h0 hx hp, free_pass hk h0 hx hp]
          have hlen : (passS s x).l.length = s.l.length := pass_len
          exact ih m' (passS s x) (left - 1) (ho.pass hx) (by rw [hlen]; omega) (by rw [hlen]; unfold fuelM at hm ⊢; omega) (by rw [hlen]; unfold fuelM at hm' ⊢; omega)
        · rw [free_gone hk h0 hx hp, free_gone hk h0 hx hp]
          have hg := gone_len hx
          have hf := fuel_gone (len := s.l.length) (left := left) (by omega) h0
          exact ih m' (goneS s s.hand) _ (ho.gone hx) (Nat.le_refl _) (by rw [hg]; omega) (by rw [hg]; omega)
end Go.Proofs.Ytdnbpgakmbamoaa.Ck
