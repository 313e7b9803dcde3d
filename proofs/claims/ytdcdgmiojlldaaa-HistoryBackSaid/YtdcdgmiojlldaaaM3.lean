/- What comes in as an argument; blocks that hold one local variable. -/
import Derived.Test.YtdcdgmiojlldaaaM2
import Derived.OpenShut
import Derived.Deep.Slices
import Derived.Carry
namespace Go.Proofs.Ytdcdgmiojlldaaa.Big
open Go Go.RowKit
set_option linter.unusedVariables false
set_option linter.unusedSimpArgs false

/-! ### Slices that come in -/
structure Bv (k : IntKind) (w : World) (A : Option Addr) (l c : Nat) (xs : List Int) : Prop where
  sl : Sl k w A l xs
  nil : A = none → l = 0 ∧ c = 0
  cap : l ≤ c
  max : c ≤ maxLen
  rng : ∀ x ∈ xs, (Lit.int k x).wf = true
theorem Bv.kp {k : IntKind} {w w' : World} {A : Option Addr} {l c : Nat} {xs : List Int} (h : Bv k w A l c xs) (hk : Kp w w') : Bv k w' A l c xs := ⟨h.sl.kp hk, h.nil, h.cap, h.max, h.rng⟩
theorem Bv.len {k : IntKind} {w : World} {A : Option Addr} {l c : Nat} {xs : List Int} (h : Bv k w A l c xs) : xs.length = l := h.sl.1
structure Ev {α : Type} (E : El α) (w : World) (A : Option Addr) (l c : Nat) (xs : List α) : Prop where
  sl : SlE E w A l xs
  nil : A = none → l = 0 ∧ c = 0
  cap : l ≤ c
  max : c ≤ maxLen
theorem Ev.kp {α : Type} {E : El α} {w w' : World} {A : Option Addr} {l c : Nat} {xs : List α} (h : Ev E w A l c xs) (hk : Kp w w') : Ev E w' A l c xs := ⟨h.sl.kp hk, h.nil, h.cap, h.max⟩
theorem Ev.len {α : Type} {E : El α} {w : World} {A : Option Addr} {l c : Nat} {xs : List α} (h : Ev E w A l c xs) : xs.length = l := h.sl.1
section
variable {H : Type} {enc : TypeId × Value → H} {P : Program} {w : World} {base : Nat} {spare : Nat → Bool} {held : Bool}
theorem bv_open {t e : TypeId} {k : IntKind} (ht : P.underlying t = some (.slice e)) (he : P.underlying e = some (.int k)) (hc : P.cellsOf e = 1) {fuel : Nat} {cs : List Value} {x : DataW H × List MemPlace}
    (h : DataW.trod enc P w base spare held fuel t cs = some x) : ∃ A l c xs, cs = [.slice A l c] ∧ Bv k w A l c xs := by
  rcases ChangeShapes.open_ints ht he hc h with ⟨hcs, _⟩ | ⟨a, l, c, zs, hcs, _, hl, hm, hz, _, hcell, hwz⟩
  · exact ⟨none, 0, 0, [], hcs, ⟨Sl.nil .., fun _ => ⟨rfl, rfl⟩, Nat.le_refl _, Nat.zero_le _, by simp⟩⟩
  · have hlz : l ≤ zs.length := by rw [hz]; split <;> omega
    refine ⟨some a, l, c, zs.take l, hcs, ⟨⟨by simp; omega, .inr ⟨a, rfl, fun i hi => ?_⟩⟩, (fun h => by cases h), hl, hm, fun y hy => hwz y (List.mem_of_mem_take hy)⟩⟩
    rw [hcell i (by omega)]
    simp only [List.getD_eq_getElem?_getD, List.getElem?_take, hi, if_true]
theorem ev_open {α : Type} {E : El α} {t e : TypeId} (ht : P.underlying t = some (.slice e)) (hc : P.cellsOf e = E.sz) (hel : ∀ (n : Nat) (cs : List Value) (x : DataW H × List MemPlace), DataW.trod enc P w base spare held n e cs = some x → ∃ y, E.rd w cs y)
    {fuel : Nat} {cs : List Value} {x : DataW H × List MemPlace} (h : DataW.trod enc P w base spare held fuel t cs = some x) : ∃ A l c xs, cs = [.slice A l c] ∧ Ev E w A l c xs := by
  rcases Go.Deep.open_slice ht h with ⟨hcs, _⟩ | ⟨a, l, c, m, n, D, Pl, hcs, _, hl, hm, hmm, _, hi⟩
  · exact ⟨none, 0, 0, [], hcs, ⟨SlE.nil .., fun _ => ⟨rfl, rfl⟩, Nat.le_refl _, Nat.zero_le _⟩⟩
  · have hlm : l ≤ m := by rw [hmm]; split <;> omega
    have key : ∀ q, q ≤ l → ∃ vs xs, xs.length = q ∧ Rows E w vs xs ∧ ∀ j v, vs[j]? = some v → w.cell? (a.add j) = some v := by
      intro q
      induction q with
      | zero => intro _; exact ⟨[], [], rfl, rfl, by simp⟩
      | succ q ih =>
        intro hq
        obtain ⟨vs, xs, h1, h2, h3⟩ := ih (by omega)
        obtain ⟨cs', h4, h5⟩ := hi q (by omega)
        obtain ⟨y, hy⟩ := hel n cs' _ h5
        obtain ⟨_, h6, h7⟩ := World.cells?_some h4
        rw [hc] at h6 h7
        refine ⟨vs ++ cs', xs ++ [y], by simp [h1], h2.app (Rows.one hy h6), fun j v hj => ?_⟩
        have hvl := h2.len
        rw [h1] at hvl
        rcases Nat.lt_or_ge j vs.length with hlt | hge
        · rw [List.getElem?_append_left hlt] at hj; exact h3 j v hj
        · rw [List.getElem?_append_right hge] at hj
          have hjl := (List.getElem?_eq_some_iff.1 hj).1
          have := h7 (j - vs.length) (by omega)
          rw [hj, Addr.add_add, show q * E.sz + (j - vs.length) = j by omega] at this
          exact this
    obtain ⟨vs, xs, h1, h2, h3⟩ := key l (Nat.le_refl _)
    exact ⟨some a, l, c, xs, hcs, ⟨⟨h1, .inr ⟨a, vs, rfl, h2, h3⟩⟩, (fun h => by cases h), hl, hm⟩⟩
theorem int_open {t : TypeId} {k : IntKind} (ht : P.underlying t = some (.int k)) {fuel : Nat} {cs : List Value} {x : DataW H × List MemPlace} (h : DataW.trod enc P w base spare held fuel t cs = some x) : ∃ n, cs = [.int k n] ∧ (Lit.int k n).wf = true := by
  cases fuel with
  | zero => cases h
  | succ fuel =>
    unfold DataW.trod at h
    rw [ht] at h
    split at h <;> simp_all
theorem bool_open {t : TypeId} (ht : P.underlying t = some .bool) {fuel : Nat} {cs : List Value} {x : DataW H × List MemPlace} (h : DataW.trod enc P w base spare held fuel t cs = some x) : ∃ b, cs = [.bool b] := by
  cases fuel with
  | zero => cases h
  | succ fuel =>
    unfold DataW.trod at h
    rw [ht] at h
    split at h <;> simp_all
/-- A struct's fields: each by its cells. -/
theorem st_open {t : TypeId} {fs : Array Field} (ht : P.underlying t = some (.struct fs)) {fuel : Nat} {cs : List Value} {x : DataW H × List MemPlace} (h : DataW.trod enc P w base spare held fuel t cs = some x) :
    cs.length = P.cellsOf t ∧ ∀ (i : Nat) (f : Field), fs[i]? = some f → ∃ n y, DataW.trod enc P w base spare held n f.type ((cs.drop f.offset).take (P.cellsOf f.type)) = some y := by
  obtain ⟨xs, n, _, _, h1, h2, h3⟩ := DataW.trod_struct ht h
  refine ⟨h1, fun i f hf => ?_⟩
  have hi : i < xs.length := by rw [h2]; exact (Array.getElem?_eq_some_iff.1 hf).1
  exact ⟨n, _, (h3 i f hf).trans (List.getElem?_eq_getElem hi)⟩
/-- An argument of one cell, by its value. -/
theorem cells_one {v : Value} {c : Value} (h : v.cells.toList = [c]) (hv : ∀ cs, v ≠ .agg cs) : v = c := by
  cases v <;> simp_all [Value.cells]
theorem all_stays (hl : laidOutB P = true) {W W' : World} (hb : Kp W W') : ∀ {ts : List TypeId} {vs : List Value} {ds : List (DataW H)} {ps : List MemPlace}, ts.all (fun t => P.readableRec t && Nat.blt t P.types.size) = true →
    DataW.TrodAll enc P W 0 (fun _ => true) true ts vs ds ps → DataW.TrodAll enc P W' 0 (fun b => decide (b < W.heap.size)) true ts vs ds ps
  | [], [], [], ps, _, h => h
  | t :: ts, v :: vs, d :: ds, ps, ht, h => by
    simp only [List.all_cons, Bool.and_eq_true] at ht
    obtain ⟨p, q, h1, h2, rfl⟩ := h
    have hlt : ∀ x ∈ p, x.block < W.heap.size := by obtain ⟨m, hm⟩ := h1; exact DataW.trod_lt m _ _ _ hm
    exact ⟨p, q, Below.trod hl ht.1.1 (Nat.le_of_ble_eq_true ht.1.2) h1 hb hlt, all_stays hl hb (by simpa using ht.2) h2, rfl⟩
  | [], [], _ :: _, _, _, h => h.elim
  | [], _ :: _, _, _, _, h => h.elim
  | _ :: _, [], _, _, _, h => h.elim
  | _ :: _, _ :: _, [], _, _, h => h.elim
end

/-! ### A local variable in a block of its own -/
section
variable {α : Type} {w : World} {t : TypeId} {l : List Value} {a b c d e x v : Value}
theorem lda (w : World) (l : List Value) (t : TypeId) (j : Nat) : (w.alloc (.cells l.toArray t)).cell? ⟨w.heap.size, j, none⟩ = l[j]? := by
  rw [cell_of_row _ _ _ _ _ _ (heap_alloc_new w _)]; simp
theorem lda0 : (w.alloc (.cells (a :: l).toArray t)).cell? ⟨w.heap.size, 0, none⟩ = some a := by rw [lda]; rfl
theorem lda1 : (w.alloc (.cells (x :: a :: l).toArray t)).cell? (Addr.add ⟨w.heap.size, 0, none⟩ 1) = some a := by rw [Addr.add_lit, lda]; rfl
theorem lda2 {x y : Value} : (w.alloc (.cells (x :: y :: a :: l).toArray t)).cell? (Addr.add ⟨w.heap.size, 0, none⟩ 2) = some a := by rw [Addr.add_lit, lda]; rfl
theorem lda3 {x y z : Value} : (w.alloc (.cells (x :: y :: z :: a :: l).toArray t)).cell? (Addr.add ⟨w.heap.size, 0, none⟩ 3) = some a := by rw [Addr.add_lit, lda]; rfl
theorem lda4 {x y z u : Value} : (w.alloc (.cells (x :: y :: z :: u :: a :: l).toArray t)).cell? (Addr.add ⟨w.heap.size, 0, none⟩ 4) = some a := by rw [Addr.add_lit, lda]; rfl
theorem sta (w : World) (l : List Value) (t : TypeId) (j : Nat) (h : j < l.length) (v : Value) (f : World → Option α) : stC (w.alloc (.cells l.toArray t)) ⟨w.heap.size, j, none⟩ v f = f (w.alloc (.cells (l.set j v).toArray t)) := by
  have h1 : (w.alloc (.cells l.toArray t)).cell? ⟨w.heap.size, j, none⟩ = some l[j] := by rw [lda]; simp [h]
  have h2 : (w.alloc (.cells l.toArray t)).frozen? ⟨w.heap.size, j, none⟩ = false := frozen_of_row _ _ _ _ _ (heap_alloc_new w _)
  have h3 : (w.alloc (.cells l.toArray t)).setCell ⟨w.heap.size, j, none⟩ v = w.alloc (.cells (l.set j v).toArray t) := by
    simp only [World.setCell, World.alloc]
    congr 1
    apply Array.ext_getElem?
    intro i
    rw [Array.getElem?_modify]
    by_cases hi : i = w.heap.size
    · subst hi; simp
    · rw [if_neg (fun e => hi e.symm)]
      simp [Array.getElem?_push, hi]
  rw [stC, h1, opt_some, h2, h3]; rfl
theorem sta0 {f : World → Option α} : stC (w.alloc (.cells (x :: l).toArray t)) ⟨w.heap.size, 0, none⟩ v f = f (w.alloc (.cells (v :: l).toArray t)) := sta _ _ _ 0 (by simp) _ _
theorem sta1 {f : World → Option α} : stC (w.alloc (.cells (a :: x :: l).toArray t)) (Addr.add ⟨w.heap.size, 0, none⟩ 1) v f = f (w.alloc (.cells (a :: v :: l).toArray t)) := by rw [Addr.add_lit]; exact sta _ _ _ 1 (by simp) _ _
theorem sta2 {f : World → Option α} : stC (w.alloc (.cells (a :: b :: x :: l).toArray t)) (Addr.add ⟨w.heap.size, 0, none⟩ 2) v f = f (w.alloc (.cells (a :: b :: v :: l).toArray t)) := by rw [Addr.add_lit]; exact sta _ _ _ 2 (by simp) _ _
theorem sta3 {f : World → Option α} : stC (w.alloc (.cells (a :: b :: c :: x :: l).toArray t)) (Addr.add ⟨w.heap.size, 0, none⟩ 3) v f = f (w.alloc (.cells (a :: b :: c :: v :: l).toArray t)) := by rw [Addr.add_lit]; exact sta _ _ _ 3 (by simp) _ _
theorem sta4 {f : World → Option α} : stC (w.alloc (.cells (a :: b :: c :: d :: x :: l).toArray t)) (Addr.add ⟨w.heap.size, 0, none⟩ 4) v f = f (w.alloc (.cells (a :: b :: c :: d :: v :: l).toArray t)) := by rw [Addr.add_lit]; exact sta _ _ _ 4 (by simp) _ _
/-- A block of local cells, later on. -/
def Lc (w : World) (b : Nat) (l : List Value) : Prop := ∃ t, w.heap[b]? = some (.cells l.toArray t (0, 0))
theorem Lc.new (w : World) (l : List Value) (t : TypeId) : Lc (w.alloc (.cells l.toArray t)) w.heap.size l := ⟨t, heap_alloc_new w _⟩
theorem Lc.lt {b : Nat} (h : Lc w b l) : b < w.heap.size := by obtain ⟨t, h⟩ := h; exact (Array.getElem?_eq_some_iff.1 h).1
theorem Lc.gx {b : Nat} {S : Nat → Prop} {w' : World} (h : Lc w b l) (hg : Gx S w w') (hn : ¬ S b) : Lc w' b l := by
  obtain ⟨t, ht⟩ := h
  exact ⟨t, by rw [hg.block b (Array.getElem?_eq_some_iff.1 ht).1 hn]; exact ht⟩
theorem Lc.kp {b : Nat} {w' : World} (h : Lc w b l) (hk : Kp w w') : Lc w' b l := h.gx (S := fun _ => False) hk.gx (fun x => x)
theorem Lc.ld {b : Nat} (h : Lc w b l) (j : Nat) : w.cell? ⟨b, j, none⟩ = l[j]? := by
  obtain ⟨t, ht⟩ := h
  rw [cell_of_row _ _ _ _ _ _ ht]; simp
theorem Lc.ld0 {b : Nat} (h : Lc w b (a :: l)) : w.cell? ⟨b, 0, none⟩ = some a := by rw [h.ld]; rfl
theorem Lc.ld1 {b : Nat} (h : Lc w b (x :: a :: l)) : w.cell? (Addr.add ⟨b, 0, none⟩ 1) = some a := by rw [Addr.add_lit, h.ld]; rfl
theorem Lc.ld2 {b : Nat} {x y : Value} (h : Lc w b (x :: y :: a :: l)) : w.cell? (Addr.add ⟨b, 0, none⟩ 2) = some a := by rw [Addr.add_lit, h.ld]; rfl
theorem Lc.ld3 {b : Nat} {x y z : Value} (h : Lc w b (x :: y :: z :: a :: l)) : w.cell? (Addr.add ⟨b, 0, none⟩ 3) = some a := by rw [Addr.add_lit, h.ld]; rfl
theorem Lc.ld4 {b : Nat} {x y z u : Value} (h : Lc w b (x :: y :: z :: u :: a :: l)) : w.cell? (Addr.add ⟨b, 0, none⟩ 4) = some a := by rw [Addr.add_lit, h.ld]; rfl
theorem Lc.st {b : Nat} (h : Lc w b l) (j : Nat) (hj : j < l.length) (v : Value) : Lc (w.setCell ⟨b, j, none⟩ v) b (l.set j v) ∧ Gx (fun k => k = b) w (w.setCell ⟨b, j, none⟩ v) ∧ ∀ {α : Type} (f : World → Option α), stC w ⟨b, j, none⟩ v f = f (w.setCell ⟨b, j, none⟩ v) := by
  obtain ⟨t, ht⟩ := h
  refine ⟨⟨t, by rw [heap_setCell_same w b j _ t v ht]; simp⟩, (Gx.rfl' (fun k => k = b) w).st (a := ⟨b, j, none⟩) (fun _ => rfl) v, fun f => ?_⟩
  have h1 : w.cell? ⟨b, j, none⟩ = some l[j] := by rw [cell_of_row _ _ _ _ _ _ ht]; simp [hj]
  rw [stC, h1, opt_some, frozen_of_row w b j _ t ht]; rfl
end
end Go.Proofs.Ytdcdgmiojlldaaa.Big
