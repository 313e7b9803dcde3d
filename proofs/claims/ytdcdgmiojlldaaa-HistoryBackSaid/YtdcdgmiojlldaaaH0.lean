/- The sort's row: pairs of slices, compared by what the first ones hold; written in place. -/
import Derived.Test.YtdcdgmiojlldaaaM9
import Derived.Test.YtdcdgmiojlldaaaG2
import Derived.Laws.OwnMore
namespace Go.Proofs.Ytdcdgmiojlldaaa.Hi
open Go Big Go.RowKit Go.IntWalk
set_option linter.unusedVariables false
set_option linter.unusedSimpArgs false
structure PV where
  kA : Option Addr
  kl : Nat
  kc : Nat
  vA : Option Addr
  vl : Nat
  vc : Nat
def PV.k (x : PV) : Value := .slice x.kA x.kl x.kc
def PV.v (x : PV) : Value := .slice x.vA x.vl x.vc
def PV.vs (x : PV) : List Value := [x.k, x.v]
def pvEl : El PV where
  sz := 2
  rd w vs x := vs = x.vs
  kp := fun _ h => h
  one := fun h u hu => by subst h; simp [PV.vs] at hu; rcases hu with rfl | rfl <;> rfl
def flat (xs : List PV) : List Value := xs.flatMap PV.vs
theorem rows_flat {w : World} : ∀ {xs : List PV} {vs : List Value}, Big.Rows pvEl w vs xs ↔ vs = flat xs
  | [], vs => Iff.rfl
  | x :: xs, vs => by
    constructor
    · rintro ⟨a, b, rfl, _, rfl, h⟩
      rw [rows_flat.1 h]; rfl
    · rintro rfl
      exact ⟨x.vs, flat xs, rfl, rfl, rfl, rows_flat.2 rfl⟩
theorem flat_at : ∀ {xs : List PV} {i : Nat} {x : PV}, xs[i]? = some x → (flat xs)[2 * i]? = some x.k ∧ (flat xs)[2 * i + 1]? = some x.v
  | [], i, x, h => by cases h
  | y :: xs, 0, x, h => by
    obtain rfl : y = x := Option.some.inj h
    exact ⟨rfl, rfl⟩
  | y :: xs, i + 1, x, h => flat_at (xs := xs) (i := i) h
theorem flat_set : ∀ {xs : List PV} {i : Nat} {x : PV}, i < xs.length → ((flat xs).set (2 * i) x.k).set (2 * i + 1) x.v = flat (xs.set i x)
  | [], i, x, h => by cases h
  | y :: xs, 0, x, h => rfl
  | y :: xs, i + 1, x, h => by
    have ih := flat_set (xs := xs) (i := i) (x := x) (by simpa using h)
    show y.k :: y.v :: ((flat xs).set (2 * i) x.k).set (2 * i + 1) x.v = _
    rw [ih]; rfl
structure Row2 (w : World) (base : Nat) (A : Option Addr) (l c : Nat) (xs : List PV) : Prop where
  len : xs.length = l
  own : w.ownsRow base 33 2 (.slice A l c) l (flat xs)
section
variable {α : Type} {Q : α → Prop} {n base : Nat} {w w' w0 : World} {A : Option Addr} {l c : Nat} {xs : List PV} {i j p q r s : Int}
theorem Row2.of (h : OwnE pvEl 33 w base (.slice A l c) xs) : Row2 w base A l c xs := by
  have hl := h.sl.1
  obtain ⟨vs, h1, h2⟩ := h
  rw [rows_flat.1 h2.out, ← hl] at h1
  exact ⟨hl.symm, h1⟩
theorem Row2.to (h : Row2 w base A l c xs) : OwnE pvEl 33 w base (.slice A l c) xs := by
  obtain ⟨rfl, h⟩ := h
  exact ⟨flat xs, h, fun _ _ => rows_flat.2 rfl⟩
theorem Row2.kp (h : Row2 w base A l c xs) (k : Kp w w') : Row2 w' base A l c xs := Row2.of (h.to.kp k)
theorem Row2.block (h : Row2 w base A l c xs) (hl : 0 < l) : ∃ g, A = some ⟨g, 0, none⟩ := by
  rcases h.own.2 with ⟨h', hn⟩ | ⟨g, cap, cur, h', _⟩
  · omega
  · injection h' with e1; exact ⟨g, e1⟩
theorem Rt.ixP2 {g : Nat} (h0 : 0 ≤ i) (h1 : i < l) {f : Addr → Option α} (hf : Rt (f ⟨g, 2 * i.toNat, none⟩) Q) : Rt (ixA (some ⟨g, 0, none⟩) l i 2 f) Q := by
  show Rt (if 0 ≤ i ∧ i < (l : Int) then f (Addr.add ⟨g, 0, none⟩ (i.toNat * 2)) else none) Q
  rw [if_pos ⟨h0, h1⟩, Addr.add_lit, Nat.zero_add, Nat.mul_comm]
  exact hf
/-- An element is read. -/
theorem Rt.ldP (h : Row2 w base A l c xs) (hi : 0 ≤ i ∧ i < l) {f : Option Addr → Nat → Nat → Option Addr → Nat → Nat → Option α} (hf : ∀ x, xs[i.toNat]? = some x → Rt (f x.kA x.kl x.kc x.vA x.vl x.vc) Q) :
    Rt (ixA A l i 2 fun ad => opt (w.cell? ad) fun v => tL v fun a b c => opt (w.cell? (Addr.add ad 1)) fun v => tL v fun a' b' c' => f a b c a' b' c') Q := by
  obtain ⟨g, rfl⟩ := h.block (by omega)
  have hlen := h.len
  refine Rt.ixP2 hi.1 hi.2 ?_
  have hx : xs[i.toNat]? = some (xs[i.toNat]'(by omega)) := List.getElem?_eq_getElem _
  generalize (xs[i.toNat]'(by omega)) = x at hx
  obtain ⟨e1, e2⟩ := flat_at hx
  have c1 := h.own.cellAt (2 * i.toNat) (by omega)
  have c2 := h.own.cellAt (2 * i.toNat + 1) (by omega)
  rw [e1] at c1
  rw [e2] at c2
  refine Rt.ol c1 (Rt.tL ?_)
  rw [Addr.add_lit]
  exact Rt.ol c2 (Rt.tL (hf x hx))
/-- An element is written. -/
theorem Rt.stP (h : Row2 w base A l c xs) (hi : 0 ≤ i ∧ i < l) (x : PV) {f : World → Option α} (hf : ∀ w', Row2 w' base A l c (xs.set i.toNat x) → Gx (On (.slice A l c)) w w' → Rt (f w') Q) :
    Rt (ixA A l i 2 fun ad => stC w ad x.k fun w1 => stC w1 (Addr.add ad 1) x.v f) Q := by
  obtain ⟨g, rfl⟩ := h.block (by omega)
  have hlen := h.len
  refine Rt.ixP2 hi.1 hi.2 ?_
  have hx : xs[i.toNat]? = some (xs[i.toNat]'(by omega)) := List.getElem?_eq_getElem _
  obtain ⟨e1, e2⟩ := flat_at hx
  have c1 := h.own.cellAt (2 * i.toNat) (by omega)
  rw [e1] at c1
  obtain ⟨o1, g1⟩ := h.own.stored (2 * i.toNat) x.k
  have c2 := o1.cellAt (2 * i.toNat + 1) (by omega)
  rw [List.getElem?_set_ne (by omega), e2] at c2
  obtain ⟨o2, g2⟩ := o1.stored (2 * i.toNat + 1) x.v
  rw [flat_set (by omega)] at o2
  have key := hf _ ⟨by rw [List.length_set]; exact hlen, o2⟩ (((Gx.of_grown g1).tr (Gx.of_grown g2)).wide fun k _ e => e)
  unfold stC
  rw [c1, h.own.frozenAt, Addr.add_lit]
  show Rt (opt (some _) fun _ => cond false none (opt (World.cell? _ _) _)) Q
  rw [c2, o1.frozenAt]
  exact key
end
end Go.Proofs.Ytdcdgmiojlldaaa.Hi
