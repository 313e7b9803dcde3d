/- ClockTurns. -/
import Derived.Test.YtdnbpgakmbamoaaK3
namespace Go.Proofs.Ytdnbpgakmbamoaa.Ck
open Go Big Go.RowKit Go.IntWalk
set_option linter.unusedVariables false
set_option linter.unusedSimpArgs false
theorem freeF_fuel {k : Int} : ∀ (m j : Nat) (s : Ca) (left : Nat), fuelM s.l.length left < m → freeF (m + j) s k left = freeF m s k left
  | 0, j, s, left, h => by omega
  | m + 1, j, s, left, h => by
    rw [show m + 1 + j = (m + j) + 1 by omega]
    by_cases h1 : k ≤ s.room - s.used
    · rw [free_yes h1, free_yes h1]
    · by_cases h0 : left = 0
      · rw [free_no h1 h0, free_no h1 h0]
      · cases hx : s.l[s.hand]? with
        | none =>
          have : ∀ q, freeF (q + 1) s k left = (s, false) := fun q => by
            show (if k ≤ s.room - s.used then (s, true) else if left = 0 then (s, false) else match s.l[s.hand]? with
              | none => (s, false)
              | some x => if 0 < x.pins ∨ x.mark = true then freeF q (passS s x) k (left - 1) else freeF q (goneS s s.hand) k (2 * (goneS s s.hand).l.length)) = _
            rw [if_neg h1, if_neg h0, hx]
          rw [this, this]
        | some x =>
          have hlt := (List.getElem?_eq_some_iff.1 hx).1
          by_cases hp : 0 < x.pins ∨ x.mark = true
          · rw [free_pass h1 h0 hx hp, free_pass h1 h0 hx hp]
            refine freeF_fuel m j _ _ ?_
            rw [pass_len]
            unfold fuelM at h ⊢; omega
          · rw [free_gone h1 h0 hx hp, free_gone h1 h0 hx hp]
            refine freeF_fuel m j _ _ ?_
            have := fuel_gone (len := s.l.length) (left := left) (by omega) h0
            rw [gone_len hx]; omega
theorem freeS_fuel {n : Nat} {s : Ca} {k : Int} (hn : 3000 ≤ n) (hl : s.l.length ≤ 30) : freeS n s k = freeS 3000 s k := by
  unfold freeS
  have : fuelM s.l.length (2 * s.l.length) < 3000 + 1 := by
    have : s.l.length * (2 * s.l.length + 1) ≤ 30 * 61 := Nat.mul_le_mul hl (by omega)
    unfold fuelM; omega
  have := freeF_fuel (k := k) 3001 (n - 3000) s (2 * s.l.length) this
  rw [show 3001 + (n - 3000) = n + 1 by omega] at this
  exact this
theorem putS_fuel {n : Nat} {s : Ca} {f p : Int} {bs : List Int} (hn : 3000 ≤ n) (hl : s.l.length ≤ 30) : putS n s f p bs = putS 3000 s f p bs := by
  unfold putS
  rw [freeS_fuel hn hl]
/-- The cache of the statement, step by step. -/
def stT (n : Nat) : Nat → Ca
  | 0 => ⟨(n : Int), 0, [], 0⟩
  | i + 1 => (relS (putS 3000 (stT n i) 7 i [1]).1 7 i).1
def s1T (n : Nat) : Ca := (relS (putS 3000 (stT n n) 7 n [1]).1 7 n).1
def s4T (n a : Nat) : Ca := getS (getS (s1T n) 7 0) 7 a
def hasT (n a : Nat) : Bool := (getB (getS (s1T n) 7 0) 7 a).isSome
def s5T (n a : Nat) : Ca := if hasT n a then (relS (s4T n a) 7 a).1 else s4T n a
def chkT' (n a : Nat) : Bool := (putS 3000 (stT n n) 7 n [1]).2 && (putS 3000 (s5T n a) 7 ((n + 1 : Nat) : Int) [1]).2 && !(getB (s1T n) 7 0).isSome && (hasT n a == decide (a ≠ 0)) && ((getB (putS 3000 (s5T n a) 7 ((n + 1 : Nat) : Int) [1]).1 7 a).isSome == hasT n a)
theorem chk_all : ∀ n, n < 21 → 3 ≤ n → ∀ a, a < n → chkT' n a = true := by decide +kernel
end Go.Proofs.Ytdnbpgakmbamoaa.Ck
