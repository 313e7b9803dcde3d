/- Clock, the definition's cache in memory: a row of slots, five cells each, written in place. -/
import Derived.Test.YtdnbpgakmbamoaaK9
import Derived.Laws.OwnMore
namespace Go.Proofs.Ytdnbpgakmbamoaa.Ck
open Go Big Go.RowKit Go.IntWalk
set_option linter.unusedVariables false
set_option linter.unusedSimpArgs false
/-- Five cells, as they are. -/
def rawEl : El (List Value) where
  sz := 5
  rd w vs x := vs = x ∧ x.length = 5 ∧ ∀ u ∈ x, u.oneCell' = true
  kp := fun _ h => h
  one := fun h u hu => by obtain ⟨rfl, _, h⟩ := h; exact h u hu
theorem slRaw : ∃ i v, SlTE Try.prog 93 98 5 i v := slTE (by kernel_rfl)
theorem raw_flat {w : World} : ∀ {xs : List (List Value)} {vs : List Value}, Big.Rows rawEl w vs xs ↔ vs = xs.flatten ∧ ∀ x ∈ xs, x.length = 5 ∧ ∀ u ∈ x, u.oneCell' = true
  | [], vs => ⟨fun h => ⟨h, fun x hx => by cases hx⟩, fun h => h.1⟩
  | x :: xs, vs => by
    constructor
    · rintro ⟨a, b, rfl, h1, ⟨rfl, h2, h3⟩, h4⟩
      obtain ⟨h5, h6⟩ := raw_flat.1 h4
      refine ⟨by rw [h5]; rfl, fun y hy => ?_⟩
      rcases List.mem_cons.1 hy with rfl | hy
      · exact ⟨h2, h3⟩
      · exact h6 y hy
    · rintro ⟨rfl, h⟩
      exact ⟨x, xs.flatten, rfl, (h x List.mem_cons_self).1, ⟨rfl, h x List.mem_cons_self⟩, raw_flat.2 ⟨rfl, fun y hy => h y (List.mem_cons_of_mem _ hy)⟩⟩
theorem flat_at : ∀ {xs : List (List Value)} (h : ∀ x ∈ xs, x.length = 5) {i : Nat} {x : List Value}, xs[i]? = some x → ∀ j < 5, xs.flatten[5 * i + j]? = x[j]?
  | [], _, i, x, hx, j, hj => by cases hx
  | y :: xs, h, 0, x, hx, j, hj => by
    have hx : y = x := Option.some.inj hx
    subst hx
    rw [List.flatten_cons, List.getElem?_append_left (by rw [h _ List.mem_cons_self]; omega)]
    simp
  | y :: xs, h, i + 1, x, hx, j, hj => by
    rw [List.flatten_cons, List.getElem?_append_right (by rw [h _ List.mem_cons_self]; omega), h _ List.mem_cons_self, show 5 * (i + 1) + j - 5 = 5 * i + j by omega]
    exact flat_at (fun z hz => h z (List.mem_cons_of_mem _ hz)) hx j hj
theorem flat_set : ∀ {xs : List (List Value)} (h : ∀ x ∈ xs, x.length = 5) {i : Nat} {x : List Value} {v : Value}, xs[i]? = some x → ∀ j < 5, xs.flatten.set (5 * i + j) v = (xs.set i (x.set j v)).flatten
  | [], _, i, x, v, hx, j, hj => by cases hx
  | y :: xs, h, 0, x, v, hx, j, hj => by
    have hx : y = x := Option.some.inj hx
    subst hx
    rw [List.flatten_cons, List.set_append_left _ _ (by rw [h _ List.mem_cons_self]; omega)]
    simp
  | y :: xs, h, i + 1, x, v, hx, j, hj => by
    rw [List.flatten_cons, List.set_append_right _ _ (by rw [h _ List.mem_cons_self]; omega), h _ List.mem_cons_self, show 5 * (i + 1) + j - 5 = 5 * i + j by omega, flat_set (fun z hz => h z (List.mem_cons_of_mem _ hz)) hx j hj]
    rfl
section
variable {α : Type} {Q : α → Prop} {n base : Nat} {w w' w0 : World} {S T : Nat → Prop} {A : Option Addr} {l c : Nat} {xs : List (List Value)}
theorem raw_open (h : OwnE rawEl 98 w base (.slice A l c) xs) : l = xs.length ∧ w.ownsRow base 98 5 (.slice A l c) l xs.flatten ∧ ∀ x ∈ xs, x.length = 5 ∧ ∀ u ∈ x, u.oneCell' = true := by
  have hl := h.sl.1
  obtain ⟨vs, h1, h2⟩ := h
  obtain ⟨h3, h4⟩ := raw_flat.1 h2.out
  rw [h3] at h1
  rw [← hl] at h1
  exact ⟨hl, h1, h4⟩
theorem raw_mk (h : w.ownsRow base 98 5 (.slice A xs.length c) xs.length xs.flatten) (h5 : ∀ x ∈ xs, x.length = 5 ∧ ∀ u ∈ x, u.oneCell' = true) : OwnE rawEl 98 w base (.slice A xs.length c) xs :=
  ⟨xs.flatten, h, fun _ _ => raw_flat.2 ⟨rfl, h5⟩⟩
theorem raw_block (h : OwnE rawEl 98 w base (.slice A l c) xs) (hl : 0 < l) : ∃ g, A = some ⟨g, 0, none⟩ := by
  obtain ⟨_, h1, _⟩ := raw_open h
  rcases h1.2 with ⟨h', hn⟩ | ⟨g, cap, cur, h', _⟩
  · omega
  · injection h' with e1; exact ⟨g, e1⟩
/-- A slot of the row. -/
theorem Rt.ixRaw (h : OwnE rawEl 98 w base (.slice A l c) xs) {i : Nat} {x : List Value} (hx : xs[i]? = some x) {f : Addr → Option α} (hf : ∀ g, A = some ⟨g, 0, none⟩ → (∀ j, j < 5 → w.cell? (Addr.add ⟨g, 5 * i, none⟩ j) = x[j]?) → Rt (f ⟨g, 5 * i, none⟩) Q) : Rt (ixA A l (i : Int) 5 f) Q := by
  obtain ⟨e, h1, h2⟩ := raw_open h
  obtain ⟨hi, _⟩ := List.getElem?_eq_some_iff.1 hx
  obtain ⟨g, rfl⟩ := raw_block h (by omega)
  have key := hf g rfl fun j hj => by
    rw [Addr.add_lit, h1.cellAt _ (by omega)]
    exact flat_at (fun z hz => (h2 z hz).1) hx j hj
  show Rt (if 0 ≤ (i : Int) ∧ (i : Int) < (l : Int) then f (Addr.add ⟨g, 0, none⟩ ((i : Int).toNat * 5)) else none) Q
  rw [if_pos ⟨by omega, by omega⟩, Int.toNat_natCast, Addr.add_lit, Nat.zero_add, Nat.mul_comm]
  exact key
/-- A cell of a slot is written. -/
theorem Rt.stRaw (h : OwnE rawEl 98 w base (.slice A l c) xs) {i : Nat} {x : List Value} (hx : xs[i]? = some x) {g : Nat} (hA : A = some ⟨g, 0, none⟩) {j : Nat} (hj : j < 5) {v : Value} (hv : v.oneCell' = true) {f : World → Option α}
    (hf : ∀ w', OwnE rawEl 98 w' base (.slice A l c) (xs.set i (x.set j v)) → Gx (fun k => k = g) w w' → Rt (f w') Q) : Rt (stC w (Addr.add ⟨g, 5 * i, none⟩ j) v f) Q := by
  obtain ⟨e, h1, h2⟩ := raw_open h
  obtain ⟨hi, hxi⟩ := List.getElem?_eq_some_iff.1 hx
  subst hA
  obtain ⟨h3, h4⟩ := h1.stored (5 * i + j) v
  have hcell := h1.cellAt (5 * i + j) (by omega)
  rw [flat_at (fun z hz => (h2 z hz).1) hx j hj] at hcell
  have hxl := (h2 x (List.mem_of_getElem? hx)).1
  rw [List.getElem?_eq_getElem (by omega)] at hcell
  rw [flat_set (fun z hz => (h2 z hz).1) hx j hj] at h3
  have hset : (xs.set i (x.set j v)).length = l := by rw [List.length_set]; exact e.symm
  have key := hf (w.setCell ⟨g, 5 * i + j, none⟩ v) (by
    have hm := raw_mk (w := w.setCell ⟨g, 5 * i + j, none⟩ v) (base := base) (A := some ⟨g, 0, none⟩) (c := c) (xs := xs.set i (x.set j v)) (by rw [hset]; exact h3) fun y hy => by
      rcases List.mem_or_eq_of_mem_set hy with hy | rfl
      · exact h2 y hy
      · refine ⟨by rw [List.length_set]; exact hxl, fun u hu => ?_⟩
        rcases List.mem_or_eq_of_mem_set hu with hu | rfl
        · exact (h2 x (List.mem_of_getElem? hx)).2 u hu
        · exact hv
    rw [hset] at hm
    exact hm) ((Gx.of_grown h4).wide fun k _ e => (Option.some.inj e).symm)
  rw [Addr.add_lit]
  unfold stC
  rw [hcell, h1.frozenAt]
  exact key
end
end Go.Proofs.Ytdnbpgakmbamoaa.Ck
