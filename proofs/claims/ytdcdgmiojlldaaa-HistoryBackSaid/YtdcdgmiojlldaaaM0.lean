/- Memory, as the readings meet it: slices that are read; what stays. -/
import Derived.Test.YtdcdgmiojlldaaaBE
import Derived.Below
import Derived.IntWalk
import Derived.Maps.AppendAt
import Derived.Laws.OwnMore
namespace Go.Proofs.Ytdcdgmiojlldaaa.Big
open Go Go.RowKit
set_option linter.unusedVariables false
set_option linter.unusedSimpArgs false

/-- What was there is as it was. -/
abbrev Kp (w w' : World) : Prop := Below w.heap.size w w'
section
variable {w w1 w2 : World}
theorem Kp.rfl' (w : World) : Kp w w := Below.refl _ _
theorem Kp.tr (h : Kp w w1) (h' : Kp w1 w2) : Kp w w2 := Below.trans h (Below.mono h' h.size)
theorem Kp.dr (h : Kp w w1) : Kp w w1.drew := Below.drew h
theorem Kp.al (h : Kp w w1) (o : Obj) : Kp w (w1.alloc o) := Below.alloc h h.size o
theorem Kp.st (h : Kp w w1) {p : Addr} (hp : w.heap.size ≤ p.block) (u : Value) : Kp w (w1.setCell p u) := Below.setCell h hp u
theorem Kp.gr (h : Kp w w1) {row : Option Nat} (hg : w1.grownBy w2 row) (hr : ∀ k, row = some k → w.heap.size ≤ k) : Kp w w2 := Below.grown h hg h.size hr
theorem Kp.grown (h : Kp w w1) : w.grownBy w1 none := ⟨h.os, h.tape, h.output, h.size, fun k hk _ => h.block k hk⟩
end

section
variable {α : Type}
theorem cT {x : Bool} {a b : α} (h : x = true) : cond x a b = a := by rw [h]; rfl
theorem cF {x : Bool} {a b : α} (h : x = false) : cond x a b = b := by rw [h]; rfl
theorem cE {x y : Int} {a b : α} (h : x = y) : cond (x == y) a b = a := cT (by rw [h]; exact beq_self_eq_true y)
theorem cN {x y : Int} {a b : α} (h : x ≠ y) : cond (x == y) a b = b := cF (by simpa using h)
theorem cl1I {k : IntKind} {i : Int} {w : World} {f : Int → World → Option α} : (cl (some ([.int k i], w)) fun vs w => tC vs fun v cs => tI k v fun n => tN cs (f n w)) = f i w := by
  rw [cl_some, tC_mk, tI_mk, tN_mk]
theorem cl1B {i : Bool} {w : World} {f : Bool → World → Option α} : (cl (some ([.bool i], w)) fun vs w => tC vs fun v cs => tB v fun n => tN cs (f n w)) = f i w := rfl
theorem cl1L {A : Option Addr} {l c : Nat} {w : World} {f : Option Addr → Nat → Nat → World → Option α} : (cl (some ([.slice A l c], w)) fun vs w => tC vs fun v cs => tL v fun A l c => tN cs (f A l c w)) = f A l c w := rfl
theorem fin_ret (vs : List Value) (w : World) : fin (some ⟨.ret, vs, w⟩) = some (vs, w) := rfl
end
/-- A slice that reads as a list of integers. -/
def Sl (k : IntKind) (w : World) (A : Option Addr) (l : Nat) (xs : List Int) : Prop :=
  xs.length = l ∧ (xs = [] ∨ ∃ a, A = some a ∧ ∀ i, i < l → w.cell? (a.add i) = some (.int k (xs.getD i 0)))
section
variable {k : IntKind} {w w' : World} {A : Option Addr} {l : Nat} {xs : List Int}
theorem Sl.len (h : Sl k w A l xs) : xs.length = l := h.1
theorem Sl.nil (k : IntKind) (w : World) (A : Option Addr) : Sl k w A 0 [] := ⟨rfl, .inl rfl⟩
theorem Sl.kp (h : Sl k w A l xs) (hk : Kp w w') : Sl k w' A l xs := by
  refine ⟨h.1, h.2.imp id ?_⟩
  rintro ⟨a, ha, hc⟩
  refine ⟨a, ha, fun i hi => ?_⟩
  have := hc i hi
  rw [Below.cell hk (World.block_lt_of_cell? w _ this)]; exact this
theorem Sl.dr (h : Sl k w A l xs) : Sl k w.drew A l xs := h
theorem Sl.at_ (h : Sl k w A l xs) {i : Int} (h0 : 0 ≤ i) (h1 : i < l) : ∃ a, A = some a ∧ w.cell? (a.add i.toNat) = some (.int k (xs.getD i.toNat 0)) := by
  have hl : i.toNat < l := by omega
  rcases h.2 with hn | ⟨a, ha, hc⟩
  · have := h.1; rw [hn] at this; simp at this; omega
  · exact ⟨a, ha, hc _ hl⟩
theorem Sl.ix (h : Sl k w A l xs) {i : Int} (h0 : 0 ≤ i) (h1 : i < l) {α : Type} (f : Int → Option α) : (ixA A l i 1 fun a => opt (w.cell? a) fun v => tI k v f) = f (xs.getD i.toNat 0) := by
  obtain ⟨a, rfl, hc⟩ := h.at_ h0 h1
  simp [ixA, h0, h1, hc, opt_some, tI_mk]
theorem Sl.ixd (h : Sl k w A l xs) {i : Int} (h0 : 0 ≤ i) (h1 : i < l) {α : Type} (f : Int → Option α) : (ixA A l i 1 fun a => opt (w.drew.cell? a) fun v => tI k v f) = f (xs.getD i.toNat 0) := h.dr.ix h0 h1 f
/-- A row of the call's own reads so. -/
theorem Sl.own {base : Nat} {e : TypeId} {c : Nat} (h : w.ownsRow base e 1 (.slice A l c) l (xs.map (.int k))) : Sl k w A l xs := by
  have hl : xs.length = l := by have := h.1; simpa using this
  refine ⟨hl, ?_⟩
  rcases h.2 with ⟨h', hn⟩ | ⟨g, cap, cur, h', _⟩
  · exact .inl (List.length_eq_zero_iff.1 (by omega))
  · injection h' with h1 h2 h3
    subst h1
    refine .inr ⟨_, rfl, fun i hi => ?_⟩
    have := h.cells (g := g) rfl i (.int k (xs.getD i 0)) (by simp [List.getElem?_map, List.getD_eq_getElem?_getD, hl, hi])
    exact this
end
end Go.Proofs.Ytdcdgmiojlldaaa.Big
