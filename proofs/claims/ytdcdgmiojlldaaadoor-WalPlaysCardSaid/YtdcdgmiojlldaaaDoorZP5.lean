/- packed by slim.py -/
import Derived.OpenShut
import Derived.Deep.Slices
import Derived.Carry
import Derived.Test.YtdcdgmiojlldaaaDoorZP4
/- What comes in as an argument; blocks that hold one local variable. -/
namespace Go.Proofs.YtdcdgmiojlldaaaDoor.Big
open Go Go.RowKit
set_option linter.unusedVariables false
set_option linter.unusedSimpArgs false
structure Bv (k : IntKind) (w : World) (A : Option Addr) (l c : Nat) (xs : List Int) : Prop where
  sl : Sl k w A l xs
  nil : A = none → l = 0 ∧ c = 0
  cap : l ≤ c
  max : c ≤ maxLen
  rng : ∀ x ∈ xs, (Lit.int k x).wf = true
theorem Bv.kp {k : IntKind} {w w' : World} {A : Option Addr} {l c : Nat} {xs : List Int} (h : Bv k w A l c xs) (hk : Kp w w') : Bv k w' A l c xs := ⟨h.sl.kp hk, h.nil, h.cap, h.max, h.rng⟩
theorem Bv.len {k : IntKind} {w : World} {A : Option Addr} {l c : Nat} {xs : List Int} (h : Bv k w A l c xs) : xs.length = l := h.sl.1
structure Ev {α : Type} (E : El α) (w : World) (A : Option Addr) (l c : Nat) (xs : List α) : Prop where
  sl : SlE E w A l xs
  nil : A = none → l = 0 ∧ c = 0
  cap : l ≤ c
  max : c ≤ maxLen
theorem Ev.kp {α : Type} {E : El α} {w w' : World} {A : Option Addr} {l c : Nat} {xs : List α} (h : Ev E w A l c xs) (hk : Kp w w') : Ev E w' A l c xs := ⟨h.sl.kp hk, h.nil, h.cap, h.max⟩
theorem Ev.len {α : Type} {E : El α} {w : World} {A : Option Addr} {l c : Nat} {xs : List α} (h : Ev E w A l c xs) : xs.length = l := h.sl.1
section
variable {H : Type} {enc : TypeId × Value → H} {P : Program} {w : World} {base : Nat} {spare : Nat → Bool} {held : Bool}
theorem bv_open {t e : TypeId} {k : IntKind} (ht : P.underlying t = some (.slice e)) (he : P.underlying e = some (.int k)) (hc : P.cellsOf e = 1) {fuel : Nat} {cs : List Value} {x : DataW H × List MemPlace}
    (h : DataW.trod enc P w base spare held fuel t cs = some x) : ∃ A l c xs, cs = [.slice A l c] ∧ Bv k w A l c xs := by
  rcases ChangeShapes.open_ints ht he hc h with ⟨hcs, _⟩ | ⟨a, l, c, zs, hcs, _, hl, hm, hz, _, hcell, hwz⟩
  · exact ⟨none, 0, 0, [], hcs, ⟨Sl.nil .., fun _ => ⟨rfl, rfl⟩, Nat.le_refl _, Nat.zero_le _, by simp⟩⟩
  · have hlz : l ≤ zs.length := by rw [hz]; split <;> omega
    refine ⟨some a, l, c, zs.take l, hcs, ⟨⟨by simp; omega, .inr ⟨a, rfl, fun i hi => ?_⟩⟩, (fun h => by cases h), hl, hm, fun y hy => hwz y (List.mem_of_mem_take hy)⟩⟩
    rw [hcell i (by omega)]
    simp only [List.getD_eq_getElem?_getD, List.getElem?_take, hi, if_true]
theorem ev_open {α : Type} {E : El α} {t e : TypeId} (ht : P.underlying t = some (.slice e)) (hc : P.cellsOf e = E.sz) (hel : ∀ (n : Nat) (cs : List Value) (x : DataW H × List MemPlace), DataW.trod enc P w base spare held n e cs = some x → ∃ y, E.rd w cs y)
    {fuel : Nat} {cs : List Value} {x : DataW H × List MemPlace} (h : DataW.trod enc P w base spare held fuel t cs = some x) : ∃ A l c xs, cs = [.slice A l c] ∧ Ev E w A l c xs := by
  rcases Go.Deep.open_slice ht h with ⟨hcs, _⟩ | ⟨a, l, c, m, n, D, Pl, hcs, _, hl, hm, hmm, _, hi⟩
  · exact ⟨none, 0, 0, [], hcs, ⟨SlE.nil .., fun _ => ⟨rfl, rfl⟩, Nat.le_refl _, Nat.zero_le _⟩⟩
  · have hlm : l ≤ m := by rw [hmm]; split <;> omega
    have key : ∀ q, q ≤ l → ∃ vs xs, xs.length = q ∧ Rows E w vs xs ∧ ∀ j v, vs[j]? = some v → w.cell? (a.add j) = some v := by
      intro q
      induction q with
      | zero => intro _; exact ⟨[], [], rfl, rfl, by simp⟩
      | succ q ih =>
        intro hq
        obtain ⟨vs, xs, h1, h2, h3⟩ := ih (by omega)
        obtain ⟨cs', h4, h5⟩ := hi q (by omega)
        obtain ⟨y, hy⟩ := hel n cs' _ h5
        obtain ⟨_, h6, h7⟩ := World.cells?_some h4
        rw [hc] at h6 h7
        refine ⟨vs ++ cs', xs ++ [y], by simp [h1], h2.app (Rows.one hy h6), fun j v hj => ?_⟩
        have hvl := h2.len
        rw [h1] at hvl
        rcases Nat.lt_or_ge j vs.length with hlt | hge
        · rw [List.getElem?_append_left hlt] at hj; exact h3 j v hj
        · rw [List.getElem?_append_right hge] at hj
          have hjl := (List.getElem?_eq_some_iff.1 hj).1
          have := h7 (j - vs.length) (by omega)
          rw [hj, Addr.add_add, show q * E.sz + (j - vs.length) = j by omega] at this
          exact this
    obtain ⟨vs, xs, h1, h2, h3⟩ := key l (Nat.le_refl _)
    exact ⟨some a, l, c, xs, hcs, ⟨⟨h1, .inr ⟨a, vs, rfl, h2, h3⟩⟩, (fun h => by cases h), hl, hm⟩⟩
theorem int_open {t : TypeId} {k : IntKind} (ht : P.underlying t = some (.int k)) {fuel : Nat} {cs : List Value} {x : DataW H × List MemPlace} (h : DataW.trod enc P w base spare held fuel t cs = some x) : ∃ n, cs = [.int k n] ∧ (Lit.int k n).wf = true := by
  cases fuel with
  | zero => cases h
  | succ fuel =>
    unfold DataW.trod at h
    rw [ht] at h
    split at h <;> simp_all
theorem st_open {t : TypeId} {fs : Array Field} (ht : P.underlying t = some (.struct fs)) {fuel : Nat} {cs : List Value} {x : DataW H × List MemPlace} (h : DataW.trod enc P w base spare held fuel t cs = some x) :
    cs.length = P.cellsOf t ∧ ∀ (i : Nat) (f : Field), fs[i]? = some f → ∃ n y, DataW.trod enc P w base spare held n f.type ((cs.drop f.offset).take (P.cellsOf f.type)) = some y := by
  obtain ⟨xs, n, _, _, h1, h2, h3⟩ := DataW.trod_struct ht h
  refine ⟨h1, fun i f hf => ?_⟩
  have hi : i < xs.length := by rw [h2]; exact (Array.getElem?_eq_some_iff.1 hf).1
  exact ⟨n, _, (h3 i f hf).trans (List.getElem?_eq_getElem hi)⟩
theorem all_stays (hl : laidOutB P = true) {W W' : World} (hb : Kp W W') : ∀ {ts : List TypeId} {vs : List Value} {ds : List (DataW H)} {ps : List MemPlace}, ts.all (fun t => P.readableRec t && Nat.blt t P.types.size) = true →
    DataW.TrodAll enc P W 0 (fun _ => true) true ts vs ds ps → DataW.TrodAll enc P W' 0 (fun b => decide (b < W.heap.size)) true ts vs ds ps
  | [], [], [], ps, _, h => h
  | t :: ts, v :: vs, d :: ds, ps, ht, h => by
    simp only [List.all_cons, Bool.and_eq_true] at ht
    obtain ⟨p, q, h1, h2, rfl⟩ := h
    have hlt : ∀ x ∈ p, x.block < W.heap.size := by obtain ⟨m, hm⟩ := h1; exact DataW.trod_lt m _ _ _ hm
    exact ⟨p, q, Below.trod hl ht.1.1 (Nat.le_of_ble_eq_true ht.1.2) h1 hb hlt, all_stays hl hb (by simpa using ht.2) h2, rfl⟩
  | [], [], _ :: _, _, _, h => h.elim
  | [], _ :: _, _, _, _, h => h.elim
  | _ :: _, [], _, _, _, h => h.elim
  | _ :: _, _ :: _, [], _, _, h => h.elim
end
/-! ### A local variable in a block of its own -/
section
variable {α : Type} {w : World} {t : TypeId} {l : List Value} {a b c d e x v : Value}
theorem lda (w : World) (l : List Value) (t : TypeId) (j : Nat) : (w.alloc (.cells l.toArray t)).cell? ⟨w.heap.size, j, none⟩ = l[j]? := by
  rw [cell_of_row _ _ _ _ _ _ (heap_alloc_new w _)]; simp
theorem sta (w : World) (l : List Value) (t : TypeId) (j : Nat) (h : j < l.length) (v : Value) (f : World → Option α) : stC (w.alloc (.cells l.toArray t)) ⟨w.heap.size, j, none⟩ v f = f (w.alloc (.cells (l.set j v).toArray t)) := by
  have h1 : (w.alloc (.cells l.toArray t)).cell? ⟨w.heap.size, j, none⟩ = some l[j] := by rw [lda]; simp [h]
  have h2 : (w.alloc (.cells l.toArray t)).frozen? ⟨w.heap.size, j, none⟩ = false := frozen_of_row _ _ _ _ _ (heap_alloc_new w _)
  have h3 : (w.alloc (.cells l.toArray t)).setCell ⟨w.heap.size, j, none⟩ v = w.alloc (.cells (l.set j v).toArray t) := by
    simp only [World.setCell, World.alloc]
    congr 1
    apply Array.ext_getElem?
    intro i
    rw [Array.getElem?_modify]
    by_cases hi : i = w.heap.size
    · subst hi; simp
    · rw [if_neg (fun e => hi e.symm)]
      simp [Array.getElem?_push, hi]
  rw [stC, h1, opt_some, h2, h3]; rfl
theorem sta0 {f : World → Option α} : stC (w.alloc (.cells (x :: l).toArray t)) ⟨w.heap.size, 0, none⟩ v f = f (w.alloc (.cells (v :: l).toArray t)) := sta _ _ _ 0 (by simp) _ _
theorem sta1 {f : World → Option α} : stC (w.alloc (.cells (a :: x :: l).toArray t)) (Addr.add ⟨w.heap.size, 0, none⟩ 1) v f = f (w.alloc (.cells (a :: v :: l).toArray t)) := by rw [Addr.add_lit]; exact sta _ _ _ 1 (by simp) _ _
theorem sta2 {f : World → Option α} : stC (w.alloc (.cells (a :: b :: x :: l).toArray t)) (Addr.add ⟨w.heap.size, 0, none⟩ 2) v f = f (w.alloc (.cells (a :: b :: v :: l).toArray t)) := by rw [Addr.add_lit]; exact sta _ _ _ 2 (by simp) _ _
def Lc (w : World) (b : Nat) (l : List Value) : Prop := ∃ t, w.heap[b]? = some (.cells l.toArray t (0, 0))
theorem Lc.new (w : World) (l : List Value) (t : TypeId) : Lc (w.alloc (.cells l.toArray t)) w.heap.size l := ⟨t, heap_alloc_new w _⟩
theorem Lc.lt {b : Nat} (h : Lc w b l) : b < w.heap.size := by obtain ⟨t, h⟩ := h; exact (Array.getElem?_eq_some_iff.1 h).1
theorem Lc.gx {b : Nat} {S : Nat → Prop} {w' : World} (h : Lc w b l) (hg : Gx S w w') (hn : ¬ S b) : Lc w' b l := by
  obtain ⟨t, ht⟩ := h
  exact ⟨t, by rw [hg.block b (Array.getElem?_eq_some_iff.1 ht).1 hn]; exact ht⟩
theorem Lc.kp {b : Nat} {w' : World} (h : Lc w b l) (hk : Kp w w') : Lc w' b l := h.gx (S := fun _ => False) hk.gx (fun x => x)
theorem Lc.ld {b : Nat} (h : Lc w b l) (j : Nat) : w.cell? ⟨b, j, none⟩ = l[j]? := by
  obtain ⟨t, ht⟩ := h
  rw [cell_of_row _ _ _ _ _ _ ht]; simp
theorem Lc.ld0 {b : Nat} (h : Lc w b (a :: l)) : w.cell? ⟨b, 0, none⟩ = some a := by rw [h.ld]; rfl
theorem Lc.ld1 {b : Nat} (h : Lc w b (x :: a :: l)) : w.cell? (Addr.add ⟨b, 0, none⟩ 1) = some a := by rw [Addr.add_lit, h.ld]; rfl
theorem Lc.ld2 {b : Nat} {x y : Value} (h : Lc w b (x :: y :: a :: l)) : w.cell? (Addr.add ⟨b, 0, none⟩ 2) = some a := by rw [Addr.add_lit, h.ld]; rfl
theorem Lc.ld3 {b : Nat} {x y z : Value} (h : Lc w b (x :: y :: z :: a :: l)) : w.cell? (Addr.add ⟨b, 0, none⟩ 3) = some a := by rw [Addr.add_lit, h.ld]; rfl
theorem Lc.ld4 {b : Nat} {x y z u : Value} (h : Lc w b (x :: y :: z :: u :: a :: l)) : w.cell? (Addr.add ⟨b, 0, none⟩ 4) = some a := by rw [Addr.add_lit, h.ld]; rfl
theorem Lc.st {b : Nat} (h : Lc w b l) (j : Nat) (hj : j < l.length) (v : Value) : Lc (w.setCell ⟨b, j, none⟩ v) b (l.set j v) ∧ Gx (fun k => k = b) w (w.setCell ⟨b, j, none⟩ v) ∧ ∀ {α : Type} (f : World → Option α), stC w ⟨b, j, none⟩ v f = f (w.setCell ⟨b, j, none⟩ v) := by
  obtain ⟨t, ht⟩ := h
  refine ⟨⟨t, by rw [heap_setCell_same w b j _ t v ht]; simp⟩, (Gx.rfl' (fun k => k = b) w).st (a := ⟨b, j, none⟩) (fun _ => rfl) v, fun f => ?_⟩
  have h1 : w.cell? ⟨b, j, none⟩ = some l[j] := by rw [cell_of_row _ _ _ _ _ _ ht]; simp [hj]
  rw [stC, h1, opt_some, frozen_of_row w b j _ t ht]; rfl
end
end Go.Proofs.YtdcdgmiojlldaaaDoor.Big
/- A reading goes step by step: one law for each form that a reading begins with. -/
namespace Go.Proofs.YtdcdgmiojlldaaaDoor.Big
open Go Go.RowKit
set_option linter.unusedVariables false
set_option linter.unusedSimpArgs false
def Rt {α : Type} (x : Option α) (Q : α → Prop) : Prop := ∃ r, x = some r ∧ Q r
section
variable {α β : Type} {Q : α → Prop} {w w0 : World} {k : IntKind} {t : TypeId} {l : List Value} {P : Program}
theorem Rt.some' {r : α} (h : Q r) : Rt (some r) Q := ⟨r, rfl, h⟩
theorem Rt.mono {x : Option α} {Q' : α → Prop} (h : Rt x Q') (hq : ∀ r, Q' r → Q r) : Rt x Q := ⟨_, h.choose_spec.1, hq _ h.choose_spec.2⟩
theorem Rt.of {x : Option α} {r : α} (h : x = some r) (hq : Q r) : Rt x Q := ⟨r, h, hq⟩
theorem Rt.fin {x : Option Res} {Q : List Value × World → Prop} (h : Rt x fun r => r.ex = .ret ∧ Q (r.vals, r.w)) : Rt (fin x) Q := by
  obtain ⟨⟨ex, vs, w⟩, rfl, h1, h2⟩ := h
  cases h1
  exact ⟨_, rfl, h2⟩
theorem Rt.tL {A : Option Addr} {n c : Nat} {f : Option Addr → Nat → Nat → Option α} (h : Rt (f A n c) Q) : Rt (tL (.slice A n c) f) Q := h
theorem Rt.tI {n : Int} {f : Int → Option α} (h : Rt (f n) Q) : Rt (tI k (.int k n) f) Q := by rw [tI_mk]; exact h
theorem Rt.tB {b : Bool} {f : Bool → Option α} (h : Rt (f b) Q) : Rt (tB (.bool b) f) Q := h
theorem Rt.tS {s : ByteArray} {f : ByteArray → Option α} (h : Rt (f s) Q) : Rt (tS (.string s) f) Q := h
theorem Rt.tP {p : Option Addr} {f : Option Addr → Option α} (h : Rt (f p) Q) : Rt (tP (.pointer p) f) Q := h
theorem Rt.tD {p : Addr} {f : Addr → Option α} (h : Rt (f p) Q) : Rt (tD (.pointer (some p)) f) Q := h
theorem Rt.tM {p : Option Nat} {f : Option Nat → Option α} (h : Rt (f p) Q) : Rt (tM (.map p) f) Q := h
theorem Rt.tF {g : Fn} {a b : Array Value} {f : Fn → Array Value → Array Value → Option α} (h : Rt (f g a b) Q) : Rt (tF (.func g a b) f) Q := h
theorem Rt.tA {cs : List Value} {f : List Value → Option α} (h : Rt (f cs) Q) : Rt (tA (.agg cs.toArray) f) Q := h
theorem Rt.tC {v : Value} {vs : List Value} {f : Value → List Value → Option α} (h : Rt (f v vs) Q) : Rt (tC (v :: vs) f) Q := h
theorem Rt.tN {x : Option α} (h : Rt x Q) : Rt (tN [] x) Q := h
theorem Rt.tG {i : FuncId} {f : FuncId → Option α} (h : Rt (f i) Q) : Rt (tG (.func i) f) Q := h
theorem Rt.os {x : β} {f : β → Option α} (h : Rt (f x) Q) : Rt (opt (some x) f) Q := h
theorem Rt.ol {x : Option β} {v : β} {f : β → Option α} (e : x = some v) (h : Rt (f v) Q) : Rt (opt x f) Q := by rw [e]; exact h
theorem Rt.clS {vs : List Value} {w : World} {f : List Value → World → Option α} (h : Rt (f vs w) Q) : Rt (cl (some (vs, w)) f) Q := h
theorem Rt.cl {x : Option (List Value × World)} {vs : List Value} {w : World} {f : List Value → World → Option α} (e : x = some (vs, w)) (h : Rt (f vs w) Q) : Rt (cl x f) Q := by rw [e]; exact h
theorem Rt.call {x : Option (List Value × World)} {f : List Value → World → Option α} {R : List Value × World → Prop} (e : Rt x R) (h : ∀ vs w, R (vs, w) → Rt (f vs w) Q) : Rt (Big.cl x f) Q := by
  obtain ⟨⟨vs, w⟩, rfl, hr⟩ := e; exact h vs w hr
theorem Rt.jm {x : Option Res} {f : List Value → World → Option Res} {Q : Res → Prop} (h : Rt x fun r => r.ex = .norm ∧ Rt (f r.vals r.w) Q) : Rt (jm x f) Q := by
  obtain ⟨⟨ex, vs, w⟩, rfl, h1, h2⟩ := h
  cases h1; exact h2
theorem Rt.jmN {vs : List Value} {w : World} {f : List Value → World → Option Res} {Q : Res → Prop} (h : Rt (f vs w) Q) : Rt (Big.jm (some ⟨.norm, vs, w⟩) f) Q := h
theorem Rt.jbN {i : Nat} {vs : List Value} {w : World} {f : List Value → World → Option Res} {Q : Res → Prop} (h : Rt (f vs w) Q) : Rt (Big.jb i (some ⟨.norm, vs, w⟩) f) Q := h
theorem Rt.jbE {i : Nat} {vs : List Value} {w : World} {f : List Value → World → Option Res} {Q : Res → Prop} (h : Rt (f vs w) Q) : Rt (Big.jb i (some ⟨.exit i, vs, w⟩) f) Q := by rw [jb_exit]; exact h
theorem Rt.jb {i : Nat} {x : Option Res} {f : List Value → World → Option Res} {Q : Res → Prop} (h : Rt x fun r => (r.ex = .norm ∨ r.ex = .exit i) ∧ Rt (f r.vals r.w) Q ∨ r.ex = .ret ∧ Q r) : Rt (Big.jb i x f) Q := by
  obtain ⟨⟨ex, vs, w⟩, rfl, ⟨h1 | h1, h2⟩ | ⟨h1, h2⟩⟩ := h
  · cases h1; exact h2
  · cases h1; rw [jb_exit]; exact h2
  · cases h1; exact ⟨_, rfl, h2⟩
theorem Rt.al {f : World → Option α} (h : ∀ w1, Lc w1 w.heap.size l → Kp w w1 → w.heap.size < w1.heap.size → Rt (f w1) Q) : Rt (al w l.toArray t f) Q :=
  h _ (Lc.new w l t) ((Kp.rfl' w).al _) (by simp)
theorem Rt.alo {f : World → Option α} (xs : List Int) (n : Nat) (hl : l = xs.map (Value.int k)) (hn : xs.length = n) (hm : n ≤ maxLen)
    (h : ∀ w1, Own k t w1 w.heap.size (.slice (some ⟨w.heap.size, 0, none⟩) n n) xs → Kp w w1 → Rt (f w1) Q) : Rt (Big.al w l.toArray t f) Q := by
  subst hl hn
  exact h _ (Own.lit w xs hm) ((Kp.rfl' w).al _)
theorem Rt.cT {b : Bool} {x y : Option α} (hb : b = true) (h : Rt x Q) : Rt (cond b x y) Q := by rw [hb]; exact h
theorem Rt.cF {b : Bool} {x y : Option α} (hb : b = false) (h : Rt y Q) : Rt (cond b x y) Q := by rw [hb]; exact h
theorem Rt.cB {b : Bool} {x y : Option α} (h1 : b = true → Rt x Q) (h2 : b = false → Rt y Q) : Rt (cond b x y) Q := by
  cases b
  · exact h2 rfl
  · exact h1 rfl
theorem Rt.cD {p : Prop} [Decidable p] {x y : Option α} (h1 : p → Rt x Q) (h2 : ¬p → Rt y Q) : Rt (cond (decide p) x y) Q :=
  Rt.cB (fun h => h1 (of_decide_eq_true h)) fun h => h2 (of_decide_eq_false h)
theorem Rt.cDT {p : Prop} [Decidable p] {x y : Option α} (hp : p) (h1 : Rt x Q) : Rt (cond (decide p) x y) Q := Rt.cT (decide_eq_true hp) h1
theorem Rt.cDF {p : Prop} [Decidable p] {x y : Option α} (hp : ¬p) (h1 : Rt y Q) : Rt (cond (decide p) x y) Q := Rt.cF (decide_eq_false hp) h1
theorem Rt.cQ {a b : Int} {x y : Option α} (h1 : a = b → Rt x Q) (h2 : a ≠ b → Rt y Q) : Rt (cond (a == b) x y) Q :=
  Rt.cB (fun h => h1 (by simpa using h)) fun h => h2 (by simpa using h)
theorem Rt.cN {a b : Int} {x y : Option α} (h1 : a = b → Rt y Q) (h2 : a ≠ b → Rt x Q) : Rt (cond (a != b) x y) Q :=
  Rt.cB (fun h => h2 (by simpa using h)) fun h => h1 (by simpa using h)
theorem Rt.iF {p : Prop} [Decidable p] {x y : Option α} (hp : ¬p) (h : Rt y Q) : Rt (if p then x else y) Q := by rw [if_neg hp]; exact h
theorem Rt.ck {x : Option Value} {v : Value} {y : Option α} (e : x = some v) (h : Rt y Q) : Rt (Big.ck x v y) Q := by rw [e, ck_self]; exact h
theorem Rt.ld0 {b : Nat} {a : Value} {f : Value → Option α} (hl : Lc w b (a :: l)) (h : Rt (f a) Q) : Rt (opt (w.cell? ⟨b, 0, none⟩) f) Q := Rt.ol hl.ld0 h
theorem Rt.ld1 {b : Nat} {a x : Value} {f : Value → Option α} (hl : Lc w b (x :: a :: l)) (h : Rt (f a) Q) : Rt (opt (w.cell? (Addr.add ⟨b, 0, none⟩ 1)) f) Q := Rt.ol hl.ld1 h
theorem Rt.ld2 {b : Nat} {a x y : Value} {f : Value → Option α} (hl : Lc w b (x :: y :: a :: l)) (h : Rt (f a) Q) : Rt (opt (w.cell? (Addr.add ⟨b, 0, none⟩ 2)) f) Q := Rt.ol hl.ld2 h
theorem Rt.ld3 {b : Nat} {a x y z : Value} {f : Value → Option α} (hl : Lc w b (x :: y :: z :: a :: l)) (h : Rt (f a) Q) : Rt (opt (w.cell? (Addr.add ⟨b, 0, none⟩ 3)) f) Q := Rt.ol hl.ld3 h
theorem Rt.ld4 {b : Nat} {a x y z u : Value} {f : Value → Option α} (hl : Lc w b (x :: y :: z :: u :: a :: l)) (h : Rt (f a) Q) : Rt (opt (w.cell? (Addr.add ⟨b, 0, none⟩ 4)) f) Q := Rt.ol hl.ld4 h
theorem Rt.st0 {b : Nat} {x v : Value} {f : World → Option α} (hl : Lc w b (x :: l)) (h : ∀ w1, Lc w1 b (v :: l) → Gx (fun k => k = b) w w1 → Rt (f w1) Q) : Rt (stC w ⟨b, 0, none⟩ v f) Q := by
  obtain ⟨h1, h2, h3⟩ := hl.st 0 (by simp) v
  rw [h3]; exact h _ h1 h2
theorem Rt.st1 {b : Nat} {x a v : Value} {f : World → Option α} (hl : Lc w b (a :: x :: l)) (h : ∀ w1, Lc w1 b (a :: v :: l) → Gx (fun k => k = b) w w1 → Rt (f w1) Q) : Rt (stC w (Addr.add ⟨b, 0, none⟩ 1) v f) Q := by
  obtain ⟨h1, h2, h3⟩ := hl.st 1 (by simp) v
  rw [Addr.add_lit, h3]; exact h _ h1 h2
theorem Rt.st2 {b : Nat} {x y a v : Value} {f : World → Option α} (hl : Lc w b (a :: y :: x :: l)) (h : ∀ w1, Lc w1 b (a :: y :: v :: l) → Gx (fun k => k = b) w w1 → Rt (f w1) Q) : Rt (stC w (Addr.add ⟨b, 0, none⟩ 2) v f) Q := by
  obtain ⟨h1, h2, h3⟩ := hl.st 2 (by simp) v
  rw [Addr.add_lit, h3]; exact h _ h1 h2
theorem Rt.st3 {b : Nat} {x y z a v : Value} {f : World → Option α} (hl : Lc w b (a :: y :: z :: x :: l)) (h : ∀ w1, Lc w1 b (a :: y :: z :: v :: l) → Gx (fun k => k = b) w w1 → Rt (f w1) Q) : Rt (stC w (Addr.add ⟨b, 0, none⟩ 3) v f) Q := by
  obtain ⟨h1, h2, h3⟩ := hl.st 3 (by simp) v
  rw [Addr.add_lit, h3]; exact h _ h1 h2
theorem Rt.al3 {a b c : Value} {x y z : Value} {f : World → Option α} (h : ∀ w1, Lc w1 w.heap.size [a, b, c] → Kp w w1 → w.heap.size < w1.heap.size → Rt (f w1) Q) :
    Rt (Big.al w #[x, y, z] t fun w1 => stC w1 ⟨w.heap.size, 0, none⟩ a fun w2 => stC w2 (Addr.add ⟨w.heap.size, 0, none⟩ 1) b fun w3 => stC w3 (Addr.add ⟨w.heap.size, 0, none⟩ 2) c f) Q := by
  show Rt (stC (w.alloc (.cells [x, y, z].toArray t)) ⟨w.heap.size, 0, none⟩ a fun w2 => stC w2 (Addr.add ⟨w.heap.size, 0, none⟩ 1) b fun w3 => stC w3 (Addr.add ⟨w.heap.size, 0, none⟩ 2) c f) Q
  rw [sta0, sta1, sta2]
  exact h _ (Lc.new w _ t) ((Kp.rfl' w).al _) (by simp)
theorem Rt.ix {A : Option Addr} {n : Nat} {xs : List Int} (hs : Sl k w A n xs) {i : Int} (h0 : 0 ≤ i) (h1 : i < n) {f : Int → Option α} (h : Rt (f (xs.getD i.toNat 0)) Q) : Rt (ixA A n i 1 fun a => opt (w.cell? a) fun v => Big.tI k v f) Q := by
  rw [hs.ix h0 h1]; exact h
theorem Rt.ixe {γ : Type} {E : El γ} {A : Option Addr} {n sz : Nat} {xs : List γ} (hs : SlE E w A n xs) (hz : E.sz = sz) {i : Int} (h0 : 0 ≤ i) (h1 : i < n) {f : Addr → Option α}
    (h : ∀ x a us, xs[i.toNat]? = some x → us.length = sz → E.rd w us x → (∀ j u, us[j]? = some u → w.cell? (a.add j) = some u) → Rt (f a) Q) : Rt (ixA A n i sz f) Q := by
  subst hz
  obtain ⟨x, a, us, e1, e2, e3, e4, e5⟩ := hs.at_ h0 h1
  rw [e2]; exact h x a us e1 e3 e4 e5
theorem Rt.cut {A : Option Addr} {n c : Nat} {xs : List Int} (hs : Bv k w A n c xs) {lo hi : Int} (h0 : 0 ≤ lo) (h1 : lo ≤ hi) (h2 : hi ≤ n) {f : Option Addr → Nat → Nat → Option α}
    (h : ∀ B, Bv k w B (hi.toNat - lo.toNat) (c - lo.toNat) ((xs.take hi.toNat).drop lo.toNat) → Rt (f B (hi.toNat - lo.toNat) (c - lo.toNat)) Q) : Rt (cutS A c lo hi 1 f) Q := by
  obtain ⟨B, e, s, hn, hle⟩ := hs.sl.cut (c := c) h0 h1 h2 hs.cap
  rw [e]
  refine h B ⟨s, fun hB => ?_, hle, Nat.le_trans (Nat.sub_le _ _) hs.max, fun x hx => hs.rng x (List.mem_of_mem_take (List.mem_of_mem_drop hx))⟩
  cases A with
  | none => have := hs.nil rfl; omega
  | some a =>
    have := e (α := Option Addr) fun A' _ _ => some A'
    rw [cutS, if_pos ⟨h0, h1, by have := hs.cap; omega⟩] at this
    injection this with this
    rw [hB] at this
    split at this <;> simp at this
end
/-! ### Rows of the call's own, as arguments -/
section
variable {P : Program} {k : IntKind} {e t : TypeId} {w w0 : World} {base : Nat} {A : Option Addr} {l c : Nat} {xs ys : List Int}
theorem Own.bv (h : Own k e w base (.slice A l c) xs) (hr : ∀ x ∈ xs, (Lit.int k x).wf = true) : Bv k w A l c xs := by
  refine ⟨h.sl.2, fun hA => ?_, ?_, ?_, hr⟩
  · subst hA
    rcases h.2 with ⟨h', hn'⟩ | ⟨g, cap, cur, h', _⟩
    · injection h' with _ h1 h2; exact ⟨h1, h2⟩
    · injection h' with h1 _ _; cases h1
  · have := h.sl.1
    rcases h.2 with ⟨h', hn'⟩ | ⟨g, cap, cur, h', _, _, hle, _⟩
    · injection h' with _ h' _; omega
    · injection h' with _ _ h'; subst h'; omega
  · rcases h.2 with ⟨h', hn'⟩ | ⟨g, cap, cur, h', _, _, hle, hm, _⟩
    · injection h' with _ _ h'; subst h'; exact Nat.zero_le _
    · injection h' with _ _ h'; subst h'; exact hm
theorem OwnE.ev {γ : Type} {E : El γ} {xs : List γ} (h : OwnE E e w base (.slice A l c) xs) : Ev E w A l c xs := by
  obtain ⟨h1, h2⟩ := h.sl
  obtain ⟨A', c', h3, h4, h5⟩ := h.slice
  injection h3 with h6 h7 h8
  subst h6 h8
  refine ⟨h2, fun hA => by have := h4 hA; omega, by omega, ?_⟩
  obtain ⟨vs, h, _⟩ := h
  rcases h.2 with ⟨h', hn'⟩ | ⟨g, cap, cur, h', _, _, hle, hm, _⟩
  · injection h' with _ _ h'; subst h'; exact Nat.zero_le _
  · injection h' with _ _ h'; subst h'; exact hm
theorem Rt.app {α : Type} {Q : α → Prop} {i : TypeInfo} (hT : SlT P t e k i) {ty : TypeId} {v : Value} (ho : Own k e w base v xs) {B : Option Addr} {m d : Nat} (hs : Sl k w B m ys) (hB : B = none → m = 0 ∧ d = 0) (hn : xs.length + m ≤ 2 ^ 40) (hb : base ≤ w.heap.size)
    {f : Value → World → Option α} (h : ∀ A c w', Own k e w' base (.slice A (xs.length + m) c) (xs ++ ys) → (∀ w0 : World, Kp w0 w → w0.heap.size ≤ base → Kp w0 w') → w.grownBy w' v.ownBlock → w.heap.size ≤ w'.heap.size → Rt (f (.slice A (xs.length + m) c) w') Q) :
    Rt (rn P (Builtin.append_ #[t, t] ty #[v, .slice B m d]) w f) Q := by
  obtain ⟨v', w', h1, h2, h3, h4⟩ := append_run hT w base ty ho hs hB hn hb
  rw [h1]
  obtain ⟨A, c, rfl⟩ := h2.slice
  have hl : (xs ++ ys).length = xs.length + m := by rw [List.length_append, hs.1]
  rw [hl] at h2 ⊢
  exact h A c w' h2 (fun w0 hk hle => hk.gr h3 fun b hb => Nat.le_trans hle (ho.lt b hb).1) h3 h3.size
theorem Rt.app0 {α : Type} {Q : α → Prop} {i : TypeInfo} (hT : SlT P t e k i) {ty : TypeId} {B : Option Addr} {m d : Nat} (hs : Sl k w B m ys) (hB : B = none → m = 0 ∧ d = 0) (hn : m ≤ 2 ^ 40)
    {f : Value → World → Option α} (h : ∀ A c w', Own k e w' w.heap.size (.slice A m c) ys → Kp w w' → Rt (f (.slice A m c) w') Q) : Rt (rn P (Builtin.append_ #[t, t] ty #[.slice none 0 0, .slice B m d]) w f) Q := by
  refine Rt.app hT (Own.nil w w.heap.size) hs hB (by simpa using hn) (Nat.le_refl _) fun A c w' o hk _ _ => ?_
  rw [List.length_nil, Nat.zero_add] at o ⊢
  rw [List.nil_append] at o
  exact h A c w' o (hk w (Kp.rfl' w) (Nat.le_refl _))
theorem Rt.appE {α γ : Type} {E : El γ} {Q : α → Prop} {i : TypeInfo} {z : Value} {sz : Nat} (hz : E.sz = sz) (hT : SlTE P t e sz i z) {ty : TypeId} {v : Value} {xs ys : List γ} (ho : OwnE E e w base v xs) {B : Option Addr} {m d : Nat} {news : List Value} (hl : ys.length = m) (hB : B = none → m = 0 ∧ d = 0)
    (hc : ∀ a, B = some a → ∀ j u, news[j]? = some u → w.cell? (a.add j) = some u) (hone : ∀ u ∈ news, u.oneCell' = true) (hr : Stb (On v) (fun w => Rows E w news ys) w) (hn : xs.length + m ≤ 2 ^ 36) (hb : base ≤ w.heap.size)
    {f : Value → World → Option α} (h : ∀ A c w', OwnE E e w' base (.slice A (xs.length + m) c) (xs ++ ys) → (∀ w0 : World, Kp w0 w → w0.heap.size ≤ base → Kp w0 w') → w.grownBy w' v.ownBlock → w.heap.size ≤ w'.heap.size → Rt (f (.slice A (xs.length + m) c) w') Q) :
    Rt (rn P (Builtin.append_ #[t, t] ty #[v, .slice B m d]) w f) Q := by
  subst hz
  obtain ⟨v', w', h1, h2, h3, h4⟩ := append_runE hT ty ho hl hB hc hone hr hn hb
  rw [h1]
  obtain ⟨A, c, rfl, _⟩ := h2.slice
  have hl : (xs ++ ys).length = xs.length + m := by rw [List.length_append, hl]
  rw [hl] at h2 ⊢
  exact h A c w' h2 (fun w0 hk hle => hk.gr h3 fun b hb => Nat.le_trans hle (ho.lt b hb).1) h3 h3.size
theorem Rt.mk {α : Type} {Q : α → Prop} {i : TypeInfo} (hT : SlT P t e k i) {n : Int} (h0 : 0 ≤ n) (hn : n ≤ 2 ^ 40) {f : Value → World → Option α}
    (h : ∀ w', Own k e w' w.heap.size (.slice (some ⟨w.heap.size, 0, none⟩) n.toNat n.toNat) (List.replicate n.toNat 0) → Kp w w' → Rt (f (.slice (some ⟨w.heap.size, 0, none⟩) n.toNat n.toNat) w') Q) : Rt (rn P (Instr.makeSlice t (.int .i64 n) (.int .i64 n)) w f) Q := by
  obtain ⟨w', h1, h2, h3⟩ := make_run (P := P) hT w n.toNat (by omega)
  have e : ((n.toNat : Nat) : Int) = n := by omega
  rw [e] at h1
  rw [h1]; exact h w' h2 h3
theorem mark_run (P : Program) (a : Addr) (w : World) : ∃ w', (markStringish a).run P w = .ok () w' ∧ (∀ p, w'.cell? p = w.cell? p) ∧ ∀ w0 : World, Kp w0 w → w0.heap.size ≤ a.block → Kp w0 w' := by
  unfold markStringish
  cases hs : w.shape? a.block with
  | none => exact ⟨w, by simp [hs], fun _ => rfl, fun _ h _ => h⟩
  | some p =>
    refine ⟨w.freeze { block := a.block, off := p.2 } 1, by simp [hs], fun q => ?_, fun w0 h hb => ?_⟩
    · unfold World.freeze
      rw [if_neg (by decide)]
      simp only [World.cell?, Array.getElem?_modify]
      by_cases hq : a.block = q.block
      · rw [if_pos hq]
        cases w.heap[q.block]? with
        | none => rfl
        | some o => cases o <;> rfl
      · rw [if_neg hq]
    · refine h.trans ⟨rfl, rfl, rfl, by simp [World.freeze], fun k hk => ?_⟩
      unfold World.freeze
      rw [if_neg (by decide)]
      simp only [Array.getElem?_modify]
      rw [if_neg (by omega)]
theorem Sl_same {k : IntKind} {w w' : World} {A : Option Addr} {l : Nat} {xs : List Int} (h : Sl k w A l xs) (hc : ∀ p, w'.cell? p = w.cell? p) : Sl k w' A l xs :=
  ⟨h.1, h.2.imp id fun ⟨a, ha, hi⟩ => ⟨a, ha, fun i hl => by rw [hc]; exact hi i hl⟩⟩
def ConvB (P : Program) (t : TypeId) : Prop := ∀ (a : Addr) (l c : Nat) (w : World), (Go.convert t t (.slice (some a) l c)).run P w = (do markStringish a; pure (Value.slice (some a) l c) : Sem Value).run P w
theorem Rt.conv {α : Type} {Q : α → Prop} (hC : ConvB P t) {a : Addr} (hs : Bv k w (some a) l c xs) (hk : Kp w0 w) (hb : w0.heap.size ≤ a.block) {f : Value → World → Option α}
    (h : ∀ w', Bv k w' (some a) l c xs → Kp w0 w' → Rt (f (.slice (some a) l c) w') Q) : Rt (rn P (Go.convert t t (.slice (some a) l c)) w f) Q := by
  obtain ⟨w', h1, h2, h3⟩ := mark_run P a w
  have e : rn P (Go.convert t t (.slice (some a) l c)) w f = f (.slice (some a) l c) w' := by simp only [rn, hC a l c w, Sem.run_bind, h1]; rfl
  rw [e]
  exact h w' ⟨Sl_same hs.sl h2, hs.nil, hs.cap, hs.max, hs.rng⟩ (h3 w0 hk hb)
theorem Rt.lit {α : Type} {Q : α → Prop} (hC : ConvB P t) (xs : List Int) (n : Nat) {l : List Value} (hl : l = xs.map (Value.int k)) (hn : xs.length = n) (hm : n ≤ maxLen) (hr : ∀ x ∈ xs, (Lit.int k x).wf = true) {f : Value → World → Option α}
    (h : ∀ A w', Bv k w' A n n xs → Kp w w' → Rt (f (.slice A n n) w') Q) : Rt (Big.al w l.toArray e fun w1 => rn P (Go.convert t t (.slice (some ⟨w.heap.size, 0, none⟩) n n)) w1 f) Q := by
  refine Rt.alo xs n hl hn hm fun w1 o1 k1 => ?_
  exact Rt.conv hC (o1.bv hr) k1 (Nat.le_refl _) fun w' b' k' => h _ w' b' k'
def str (xs : List Int) : ByteArray := ⟨(xs.map fun (x : Int) => UInt8.ofNat x.toNat).toArray⟩
theorem rdB_ok {w : World} {a : Addr} : ∀ (m i : Nat) (xs : List Int), (∀ j, j < m → w.cell? (a.add (i + j)) = some (.int .u8 (xs.getD j 0))) → xs.length = m → rdB w a m i = some (xs.map fun (x : Int) => UInt8.ofNat x.toNat)
  | 0, i, xs, _, hl => by
    have : xs = [] := List.length_eq_zero_iff.1 hl
    subst this; rfl
  | m + 1, i, [], h, hl => by simp at hl
  | m + 1, i, x :: xs, h, hl => by
    have h0 := h 0 (by omega)
    have hr := rdB_ok m (i + 1) xs (fun j hj => by have := h (j + 1) (by omega); rw [show i + (j + 1) = i + 1 + j by omega] at this; simpa using this) (by simpa using hl)
    show (opt (w.cell? (a.add i)) fun v => tI .u8 v fun x => opt (rdB w a m (i + 1)) fun l => some (UInt8.ofNat x.toNat :: l)) = _
    have h0 : w.cell? (a.add i) = some (.int .u8 x) := h0
    rw [h0, opt_some, tI_mk, hr, opt_some]; rfl
theorem strOf_ok {w : World} {A : Option Addr} {l : Nat} {xs : List Int} (h : Sl .u8 w A l xs) : strOf w A l = some (str xs) := by
  rcases h.2 with hn | ⟨a, rfl, hc⟩
  · subst hn
    have hl : l = 0 := h.1.symm
    subst hl
    cases A with
    | none => rfl
    | some a => rfl
  · show (opt (rdB w a l 0) fun l => some (⟨l.toArray⟩ : ByteArray)) = _
    rw [rdB_ok l 0 xs (fun j hj => by rw [Nat.zero_add]; exact hc j hj) h.1, opt_some]; rfl
theorem str_toList (xs : List Int) : (str xs).toList = xs.map fun (x : Int) => UInt8.ofNat x.toNat := by rw [str, ByteArray.toList_mk]
theorem u8wf {x : Int} (h : (Lit.int .u8 x).wf = true) : 0 ≤ x ∧ x < 256 := by
  have h : IntKind.u8.min ≤ x ∧ x ≤ IntKind.u8.max := by simpa [Lit.wf] using h
  have h1 : IntKind.u8.min = 0 := rfl
  have h2 : IntKind.u8.max = 255 := rfl
  omega
theorem str_inj : ∀ {xs ys : List Int}, (∀ x ∈ xs, (Lit.int .u8 x).wf = true) → (∀ x ∈ ys, (Lit.int .u8 x).wf = true) → (xs.map fun (x : Int) => UInt8.ofNat x.toNat) = (ys.map fun (x : Int) => UInt8.ofNat x.toNat) → xs = ys
  | [], [], _, _, _ => rfl
  | [], y :: ys, _, _, h => by simp at h
  | x :: xs, [], _, _, h => by simp at h
  | x :: xs, y :: ys, hx, hy, h => by
    simp only [List.map_cons, List.cons.injEq] at h
    have h1 := u8wf (hx x List.mem_cons_self)
    have h2 := u8wf (hy y List.mem_cons_self)
    have h3 := congrArg UInt8.toNat h.1
    simp only [UInt8.toNat_ofNat'] at h3
    rw [str_inj (fun z hz => hx z (List.mem_cons_of_mem _ hz)) (fun z hz => hy z (List.mem_cons_of_mem _ hz)) h.2]
    congr 1
    omega
theorem str_eq {xs ys : List Int} (hx : ∀ x ∈ xs, (Lit.int .u8 x).wf = true) (hy : ∀ x ∈ ys, (Lit.int .u8 x).wf = true) : ((str xs).toList == (str ys).toList) = decide (xs = ys) := by
  rw [str_toList, str_toList]
  by_cases h : xs = ys
  · subst h; simp
  · rw [decide_eq_false h]
    simp only [beq_eq_false_iff_ne, ne_eq]
    exact fun h' => h (str_inj hx hy h')
def RB (p : Prop) (w0 : World) : List Value × World → Prop := fun r => ∃ b w', r = ([.bool b], w') ∧ (b = true ↔ p) ∧ Kp w0 w'
def RI (k : IntKind) (x : Int) (w0 : World) : List Value × World → Prop := fun r => ∃ w', r = ([.int k x], w') ∧ Kp w0 w'
section
variable {α : Type} {Q : α → Prop} {w w0 : World} {k : IntKind}
theorem Rt.cI {x : Option (List Value × World)} {v : Int} (h : Rt x (RI k v w0)) {f : Int → World → Option α} (hf : ∀ w1, Kp w0 w1 → Rt (f v w1) Q) : Rt (Big.cl x fun vs w => Big.tC vs fun u cs => Big.tI k u fun n => Big.tN cs (f n w)) Q := by
  obtain ⟨_, rfl, w1, rfl, k1⟩ := h
  rw [cl1I]; exact hf w1 k1
theorem Rt.cBo {x : Option (List Value × World)} {p : Prop} (h : Rt x (RB p w0)) {f : Bool → World → Option α} (hf : ∀ b w1, (b = true ↔ p) → Kp w0 w1 → Rt (f b w1) Q) : Rt (Big.cl x fun vs w => Big.tC vs fun u cs => Big.tB u fun n => Big.tN cs (f n w)) Q := by
  obtain ⟨_, rfl, b, w1, rfl, hb, k1⟩ := h
  rw [cl1B]; exact hf b w1 hb k1
theorem Rt.cBt {x : Option (List Value × World)} {p : Prop} (h : Rt x (RB p w0)) (hp : p) {f : Bool → World → Option α} (hf : ∀ w1, Kp w0 w1 → Rt (f true w1) Q) : Rt (Big.cl x fun vs w => Big.tC vs fun u cs => Big.tB u fun n => Big.tN cs (f n w)) Q :=
  Rt.cBo h fun b w1 hb k1 => by rw [hb.2 hp]; exact hf w1 k1
theorem Rt.ckR {x : Option Value} {v : Value} {y : Option α} (e : Rt x fun u => u = v) (h : Rt y Q) : Rt (Big.ck x v y) Q := by
  obtain ⟨_, e, rfl⟩ := e; exact Rt.ck e h
theorem Rt.str {A : Option Addr} {l c : Nat} {xs : List Int} (hb : Bv .u8 w A l c xs) {f : ByteArray → Option α} (h : Rt (f (Big.str xs)) Q) : Rt (opt (strOf w A l) f) Q := by
  rw [strOf_ok hb.sl, opt_some]; exact h
theorem Rt.cS {xs ys : List Int} {x y : Option α} (hx : ∀ x ∈ xs, (Lit.int .u8 x).wf = true) (hy : ∀ x ∈ ys, (Lit.int .u8 x).wf = true) (h1 : xs = ys → Rt x Q) (h2 : xs ≠ ys → Rt y Q) : Rt (cond ((Big.str xs).toList == (Big.str ys).toList) x y) Q := by
  rw [str_eq hx hy]; exact Rt.cD h1 h2
theorem Rt.cSn {xs ys : List Int} {x y : Option α} (hx : ∀ x ∈ xs, (Lit.int .u8 x).wf = true) (hy : ∀ x ∈ ys, (Lit.int .u8 x).wf = true) (h1 : xs = ys → Rt y Q) (h2 : xs ≠ ys → Rt x Q) : Rt (cond (!((Big.str xs).toList == (Big.str ys).toList)) x y) Q := by
  rw [str_eq hx hy]
  exact Rt.cB (fun h => h2 (by simpa using h)) fun h => h1 (by simpa using h)
theorem RB.out {x : Option (List Value × World)} {p : Prop} (h : Rt x (RB p w0)) (hp : p) : ∃ w', x = some ([.bool true], w') ∧ Kp w0 w' := by
  obtain ⟨_, rfl, b, w1, rfl, hb, k1⟩ := h
  rw [hb.2 hp]; exact ⟨w1, rfl, k1⟩
theorem Rt.endB {w' : World} {b : Bool} {p : Prop} (h : b = true ↔ p) (hk : Kp w0 w') : Rt (some (⟨.ret, [.bool b], w'⟩ : Res)) (fun r => r.ex = .ret ∧ RB p w0 (r.vals, r.w)) := ⟨_, rfl, rfl, b, w', rfl, h, hk⟩
theorem Rt.endI {w' : World} {v v' : Int} (h : v = v') (hk : Kp w0 w') : Rt (some (⟨.ret, [.int k v], w'⟩ : Res)) (fun r => r.ex = .ret ∧ RI k v' w0 (r.vals, r.w)) := ⟨_, rfl, rfl, w', by rw [h], hk⟩
end
end
end Go.Proofs.YtdcdgmiojlldaaaDoor.Big
/- Arguments, opened. -/
namespace Go.Proofs.YtdcdgmiojlldaaaDoor.Big
open Go Go.RowKit
set_option linter.unusedVariables false
set_option linter.unusedSimpArgs false
section
variable {H : Type} {enc : TypeId × Value → H} {P : Program} {W : World} {base b0 : Nat} {spare : Nat → Bool} {held : Bool} {r : Reach} {t e : TypeId} {v : Value} {d : DataW H} {p : List MemPlace} {k : IntKind}
theorem bv_openT (ht : P.underlying t = some (.slice e)) (he : P.underlying e = some (.int k)) (hc : P.cellsOf e = 1) (h : DataW.Trod enc P W base spare held t v d p) (hv : Value.okWide P W r b0 t v) : ∃ A l c xs, v = .slice A l c ∧ Bv k W A l c xs := by
  obtain ⟨A, l, c, rfl⟩ := WideShapes.okWide_slice ht hv
  obtain ⟨fuel, hf⟩ := h
  obtain ⟨A', l', c', xs, he, hb⟩ := bv_open ht he hc hf
  have he : [Value.slice A l c] = [Value.slice A' l' c'] := he
  simp only [List.cons.injEq, and_true] at he
  exact ⟨A', l', c', xs, he, hb⟩
theorem ev_openT {α : Type} {E : El α} (ht : P.underlying t = some (.slice e)) (hc : P.cellsOf e = E.sz) (hel : ∀ (n : Nat) (cs : List Value) (x : DataW H × List MemPlace), DataW.trod enc P W base spare held n e cs = some x → ∃ y, E.rd W cs y)
    (h : DataW.Trod enc P W base spare held t v d p) (hv : Value.okWide P W r b0 t v) : ∃ A l c xs, v = .slice A l c ∧ Ev E W A l c xs := by
  obtain ⟨A, l, c, rfl⟩ := WideShapes.okWide_slice ht hv
  obtain ⟨fuel, hf⟩ := h
  obtain ⟨A', l', c', xs, he, hb⟩ := ev_open ht hc hel hf
  have he : [Value.slice A l c] = [Value.slice A' l' c'] := he
  simp only [List.cons.injEq, and_true] at he
  exact ⟨A', l', c', xs, he, hb⟩
theorem int_openT (ht : P.underlying t = some (.int k)) (h : DataW.Trod enc P W base spare held t v d p) (hv : Value.okWide P W r b0 t v) : ∃ n, v = .int k n ∧ (Lit.int k n).wf = true := by
  obtain ⟨n, rfl⟩ := WideShapes.okWide_int ht hv
  obtain ⟨fuel, hf⟩ := h
  obtain ⟨m, he, hw⟩ := int_open ht hf
  have he : [Value.int k n] = [Value.int k m] := he
  simp only [List.cons.injEq, and_true] at he
  exact ⟨m, he, hw⟩
end
theorem i64b {x : Int} (h : (Lit.int .i64 x).wf = true) : -2 ^ 63 ≤ x ∧ x < 2 ^ 63 := by
  have h : IntKind.i64.min ≤ x ∧ x ≤ IntKind.i64.max := by simpa [Lit.wf] using h
  have h1 : IntKind.i64.min = -2 ^ 63 := rfl
  have h2 : IntKind.i64.max = 2 ^ 63 - 1 := rfl
  omega
theorem u64b {x : Int} (h : (Lit.int .u64 x).wf = true) : 0 ≤ x ∧ x < 2 ^ 64 := by
  have h : IntKind.u64.min ≤ x ∧ x ≤ IntKind.u64.max := by simpa [Lit.wf] using h
  have h1 : IntKind.u64.min = 0 := rfl
  have h2 : IntKind.u64.max = 2 ^ 64 - 1 := rfl
  omega
end Go.Proofs.YtdcdgmiojlldaaaDoor.Big
/- Numbers in bytes; rows that a call makes and hands out. -/
namespace Go.Proofs.YtdcdgmiojlldaaaDoor.Big
open Go Go.RowKit Go.IntWalk
set_option linter.unusedVariables false
set_option linter.unusedSimpArgs false
theorem or64 {x y k : Nat} (hx : x < 2 ^ k) (h : x + y * 2 ^ k < 2 ^ 64) : bits .or .u64 (x : Int) ((y * 2 ^ k : Nat) : Int) = ((x + y * 2 ^ k : Nat) : Int) ∧ bits .or .u64 ((y * 2 ^ k : Nat) : Int) (x : Int) = ((x + y * 2 ^ k : Nat) : Int) := by
  have e : y * 2 ^ k ||| x = x + y * 2 ^ k := by rw [Nat.mul_comm, ← Nat.two_pow_add_eq_or_of_lt hx, Nat.add_comm]
  have hx64 : x < 2 ^ 64 := by omega
  have hy64 : y * 2 ^ k < 2 ^ 64 := by omega
  have hb : (BitVec.ofNat 64 (y * 2 ^ k) ||| BitVec.ofNat 64 x).toNat = x + y * 2 ^ k := by
    rw [BitVec.toNat_or, BitVec.toNat_ofNat, BitVec.toNat_ofNat, Nat.mod_eq_of_lt hx64, Nat.mod_eq_of_lt hy64, e]
  have hb' : (BitVec.ofNat 64 x ||| BitVec.ofNat 64 (y * 2 ^ k)).toNat = x + y * 2 ^ k := by rw [BitVec.or_comm]; exact hb
  constructor
  · unfold bits
    simp only [IntKind.bits, BitVec.ofInt_natCast]
    show IntKind.u64.wrap (((BitVec.ofNat 64 x ||| BitVec.ofNat 64 (y * 2 ^ k)).toNat : Nat) : Int) = _
    rw [hb']
    generalize x + y * 2 ^ k = z at h ⊢
    exact u64_in (z : Int) (by omega)
  · unfold bits
    simp only [IntKind.bits, BitVec.ofInt_natCast]
    show IntKind.u64.wrap (((BitVec.ofNat 64 (y * 2 ^ k) ||| BitVec.ofNat 64 x).toNat : Nat) : Int) = _
    rw [hb]
    generalize x + y * 2 ^ k = z at h ⊢
    exact u64_in (z : Int) (by omega)
theorem orI {x y : Int} (k : Nat) (h0 : 0 ≤ x) (hx : x < 2 ^ k) (hy : 0 ≤ y) (h : x + y * 2 ^ k < 2 ^ 64) : bits .or .u64 x (y * 2 ^ k) = x + y * 2 ^ k ∧ bits .or .u64 (y * 2 ^ k) x = x + y * 2 ^ k := by
  obtain ⟨x, rfl⟩ := Int.eq_ofNat_of_zero_le h0
  obtain ⟨y, rfl⟩ := Int.eq_ofNat_of_zero_le hy
  have e : ((y : Int) * 2 ^ k) = ((y * 2 ^ k : Nat) : Int) := by simp
  rw [e] at h ⊢
  have := or64 (x := x) (y := y) (k := k) (by have : ((x : Int)) < ((2 ^ k : Nat) : Int) := by simpa using hx
                                              omega) (by omega)
  rw [this.1, this.2]
  simp
theorem and255 {x : Int} (h0 : 0 ≤ x) (h : x < 2 ^ 64) : bits .and .u64 x 255 = x % 256 := by
  obtain ⟨x, rfl⟩ := Int.eq_ofNat_of_zero_le h0
  have hb : (BitVec.ofNat 64 x &&& BitVec.ofNat 64 255).toNat = x % 256 := by
    rw [BitVec.toNat_and, BitVec.toNat_ofNat, BitVec.toNat_ofNat, Nat.mod_eq_of_lt (by omega)]
    exact Nat.and_two_pow_sub_one_eq_mod x 8
  unfold bits
  simp only [IntKind.bits]
  show IntKind.u64.wrap (((BitVec.ofInt 64 (x : Int) &&& BitVec.ofInt 64 ((255 : Nat) : Int)).toNat : Nat) : Int) = _
  rw [BitVec.ofInt_natCast, BitVec.ofInt_natCast, hb]
  exact u64_in _ (by omega)
theorem u8w (x : Int) : IntKind.u8.wrap x = x % 256 := by rw [IntKind.wrap_u8]
theorem fdivI (x : Int) (k : Nat) : Int.fdiv x (2 ^ k) = x / 2 ^ k := Int.fdiv_eq_ediv_of_nonneg _ (Int.le_of_lt (Int.pow_pos (by decide)))
def lowB : Nat → Int → List Int
  | 0, _ => []
  | n + 1, x => x % 256 :: lowB n (x / 256)
def le : List Int → Int
  | [] => 0
  | x :: xs => x + 256 * le xs
theorem lowB_len : ∀ (n : Nat) (x : Int), (lowB n x).length = n
  | 0, _ => rfl
  | n + 1, x => by rw [lowB, List.length_cons, lowB_len]
theorem lowB_wf : ∀ (n : Nat) (x : Int), ∀ z ∈ lowB n x, (Lit.int .u8 z).wf = true
  | 0, _, z, h => by simp [lowB] at h
  | n + 1, x, z, h => by
    rw [lowB, List.mem_cons] at h
    rcases h with rfl | h
    · have h0 : IntKind.u8.min = 0 := rfl
      have h1 : IntKind.u8.max = 255 := rfl
      simp only [Lit.wf, h0, h1, Bool.and_eq_true, decide_eq_true_eq]
      omega
    · exact lowB_wf n _ z h
theorem lowB_snoc : ∀ (n : Nat) (x : Int), lowB (n + 1) x = lowB n x ++ [x / 256 ^ n % 256]
  | 0, x => by simp [lowB]
  | n + 1, x => by
    rw [lowB, lowB_snoc n (x / 256), lowB, List.cons_append]
    congr 4
    rw [Int.ediv_ediv_of_nonneg (by decide), Int.pow_succ, Int.mul_comm]
theorem le_lowB : ∀ (n : Nat) {x : Int}, 0 ≤ x → x < 256 ^ n → le (lowB n x) = x
  | 0, x, h0, h => by simp [lowB, le]; omega
  | n + 1, x, h0, h => by
    rw [lowB, le, le_lowB n (by omega) (by rw [Int.pow_succ] at h; generalize (256 : Int) ^ n = q at h ⊢; omega)]
    omega
theorem le_nonneg : ∀ {xs : List Int}, (∀ z ∈ xs, (Lit.int .u8 z).wf = true) → 0 ≤ le xs ∧ le xs < 256 ^ xs.length
  | [], _ => by simp [le]
  | x :: xs, h => by
    have h1 := u8wf (h x List.mem_cons_self)
    have h2 := le_nonneg (xs := xs) fun z hz => h z (List.mem_cons_of_mem _ hz)
    rw [le, List.length_cons, Int.pow_succ]
    generalize (256 : Int) ^ xs.length = q at h2 ⊢
    omega
theorem lowB_le : ∀ {xs : List Int}, (∀ z ∈ xs, (Lit.int .u8 z).wf = true) → lowB xs.length (le xs) = xs
  | [], _ => rfl
  | x :: xs, h => by
    have h1 := u8wf (h x List.mem_cons_self)
    rw [List.length_cons, lowB, le, show (x + 256 * le xs) % 256 = x by omega, show (x + 256 * le xs) / 256 = le xs by omega, lowB_le fun z hz => h z (List.mem_cons_of_mem _ hz)]
def RO (k : IntKind) (e : TypeId) (w0 : World) (xs : List Int) : List Value × World → Prop := fun r => ∃ B d w', r = ([.slice B xs.length d], w') ∧ Own k e w' w0.heap.size (.slice B xs.length d) xs ∧ Kp w0 w'
section
variable {α : Type} {Q : α → Prop} {w w0 w' : World} {k : IntKind} {e : TypeId} {xs : List Int}
theorem Rt.cO {x : Option (List Value × World)} (h : Rt x (RO k e w0 xs)) {f : Option Addr → Nat → Nat → World → Option α}
    (hf : ∀ B d w1, Own k e w1 w0.heap.size (.slice B xs.length d) xs → Kp w0 w1 → Rt (f B xs.length d w1) Q) : Rt (Big.cl x fun vs w => Big.tC vs fun u cs => Big.tL u fun A l c => Big.tN cs (f A l c w)) Q := by
  obtain ⟨_, rfl, B, d, w1, rfl, o, k1⟩ := h
  exact hf B d w1 o k1
theorem Rt.endO {A : Option Addr} {l c : Nat} {base : Nat} (ho : Own k e w' base (.slice A l c) xs) (hb : w0.heap.size ≤ base) (hk : Kp w0 w') : Rt (some (⟨.ret, [.slice A l c], w'⟩ : Res)) (fun r => r.ex = .ret ∧ RO k e w0 xs (r.vals, r.w)) := by
  have hl := ho.sl.1
  subst hl
  exact ⟨_, rfl, rfl, A, c, w', rfl, ho.mono hb, hk⟩
theorem Own.gx {base : Nat} {v : Value} {S : Nat → Prop} (h : Own k e w base v xs) (hg : Gx S w w') (hn : ∀ j, v.ownBlock = some j → ¬ S j) : Own k e w' base v xs :=
  ⟨h.1, h.2.imp id fun ⟨g, cap, cur, h1, h2, h3, h4⟩ => ⟨g, cap, cur, h1, h2, by rw [hg.block g (Array.getElem?_eq_some_iff.1 h3).1 (hn g (by rw [h1]; rfl))]; exact h3, h4⟩⟩
theorem Rt.sto3 {b : Nat} {x y z a c d : Value} {f : World → Option α} (hl : Lc w b [x, y, z]) (h : ∀ w1, Lc w1 b [a, c, d] → Gx (fun k => k = b) w w1 → Rt (f w1) Q) :
    Rt (stC w ⟨b, 0, none⟩ a fun w1 => stC w1 (Addr.add ⟨b, 0, none⟩ 1) c fun w2 => stC w2 (Addr.add ⟨b, 0, none⟩ 2) d f) Q :=
  Rt.st0 hl fun w1 l1 g1 => Rt.st1 l1 fun w2 l2 g2 => Rt.st2 l2 fun w3 l3 g3 => h w3 l3 ((g1.tr g2).tr g3)
end
theorem cell_kp {w w' : World} {a : Addr} {v : Value} (h : w.cell? a = some v) (hk : Kp w w') : w'.cell? a = some v := by
  rw [Below.cell hk (World.block_lt_of_cell? w _ h)]; exact h
section
variable {α γ : Type} {E : El γ} {Q : α → Prop} {P : Program} {t e : TypeId} {w w0 : World} {base : Nat} {v : Value} {xs ys : List γ} {i : TypeInfo} {z : Value}
theorem Rt.ix0 {b n sz : Nat} {f : Addr → Option α} (hn : 0 < n) (h : Rt (f ⟨b, 0, none⟩) Q) : Rt (ixA (some ⟨b, 0, none⟩) n 0 sz f) Q := by
  have e : ixA (some ⟨b, 0, none⟩) n 0 sz f = f ⟨b, 0, none⟩ := by
    unfold ixA
    simp only
    rw [if_pos ⟨Int.le_refl _, by omega⟩]
    simp [Addr.add]
  rw [e]; exact h
theorem Lc.ev1 {b : Nat} {us : List Value} {x : γ} (h : Lc w b us) (hx : E.rd w us x) (hl : us.length = E.sz) : Ev E w (some ⟨b, 0, none⟩) 1 1 [x] :=
  ⟨⟨rfl, .inr ⟨_, us, rfl, Rows.one hx hl, fun j v hj => by rw [Addr.add_lit, Nat.zero_add, h.ld]; exact hj⟩⟩, (fun h => by cases h), Nat.le_refl _, by decide⟩
end
end Go.Proofs.YtdcdgmiojlldaaaDoor.Big
/- Rows of structs of the call's own that stay while other blocks of the call's own are written. -/
namespace Go.Proofs.YtdcdgmiojlldaaaDoor.Big
open Go Go.RowKit
set_option linter.unusedVariables false
set_option linter.unusedSimpArgs false
section
variable {α γ : Type} {E : El γ} {Q : α → Prop} {P : Program} {t e : TypeId} {w w' w0 : World} {base : Nat} {v : Value} {xs ys : List γ} {S S' : Nat → Prop} {i : TypeInfo} {z : Value}
def OwnX (S : Nat → Prop) (E : El γ) (e : TypeId) (w : World) (base : Nat) (v : Value) (xs : List γ) : Prop :=
  ∃ vs, w.ownsRow base e E.sz v xs.length vs ∧ Stb (fun k => S k ∨ On v k) (fun w => Rows E w vs xs) w
theorem OwnX.ownE (h : OwnX S E e w base v xs) : OwnE E e w base v xs := by
  obtain ⟨vs, h1, h2⟩ := h
  exact ⟨vs, h1, h2.less fun k _ hk => .inr hk⟩
theorem OwnX.nil (S : Nat → Prop) (w : World) (base : Nat) : OwnX S E e w base (.slice none 0 0) [] := ⟨[], World.ownsRow_nil w base e E.sz, fun _ _ => (rfl : ([] : List Value) = [])⟩
theorem OwnX.lt (h : OwnX S E e w base v xs) : ∀ b, v.ownBlock = some b → base ≤ b ∧ b < w.heap.size := h.ownE.lt
theorem OwnX.gx (h : OwnX S E e w base v xs) (hg : Gx S' w w') (hS : ∀ k, k < w.heap.size → S' k → S k) (hn : ∀ k, S' k → ¬ On v k) : OwnX S E e w' base v xs := by
  obtain ⟨vs, h1, h2⟩ := h
  refine ⟨vs, ⟨h1.1, h1.2.imp id fun ⟨g, cap, cur, e1, e2, e3, e4⟩ => ⟨g, cap, cur, e1, e2, by rw [hg.block g (Array.getElem?_eq_some_iff.1 e3).1 (fun hs => hn g hs (by rw [e1]; rfl))]; exact e3, e4⟩⟩, ?_⟩
  exact h2.on (hg.wide fun k hk hs => .inl (hS k hk hs))
theorem OwnX.kp (h : OwnX S E e w base v xs) (hk : Kp w w') : OwnX S E e w' base v xs := h.gx (S' := fun _ => False) hk.gx (fun _ _ h => h.elim) fun _ h => h.elim
theorem OwnX.mono {base' : Nat} (h : OwnX S E e w base v xs) (hb : base' ≤ base) : OwnX S E e w base' v xs := by
  obtain ⟨vs, h1, h2⟩ := h
  exact ⟨vs, ⟨h1.1, h1.2.imp id fun ⟨g, cap, cur, e1, e2, e3⟩ => ⟨g, cap, cur, e1, by omega, e3⟩⟩, h2⟩
theorem OwnX.less (h : OwnX S E e w base v xs) (hs : ∀ k, S' k → S k) : OwnX S' E e w base v xs := by
  obtain ⟨vs, h1, h2⟩ := h
  exact ⟨vs, h1, h2.less fun k _ hk => hk.imp (hs k) id⟩
theorem Rt.app1L {sz : Nat} (hz : E.sz = sz) (hT : SlTE P t e sz i z) {ty : TypeId} (ho : OwnX S E e w base v xs) {us : List Value} {x : γ} {b : Nat} (hl : Lc w b us) (hul : us.length = sz) (hx : Stb (fun k => S k ∨ On v k) (fun w => E.rd w us x) w) (hn : xs.length + 1 ≤ 2 ^ 36) (hb : base ≤ w.heap.size)
    {f : Value → World → Option α} (h : ∀ A c w', OwnX S E e w' base (.slice A (xs.length + 1) c) (xs ++ [x]) → Gx (On v) w w' → w.heap.size ≤ w'.heap.size → Rt (f (.slice A (xs.length + 1) c) w') Q) :
    Rt (rn P (Builtin.append_ #[t, t] ty #[v, .slice (some ⟨b, 0, none⟩) 1 1]) w f) Q := by
  subst hz
  obtain ⟨vs, ho, hs⟩ := ho
  have hr : Stb (fun k => S k ∨ On v k) (fun w => Rows E w us [x]) w := fun w' hg => Rows.one (hx w' hg) hul
  have hbytes : (xs.length + 1) * i.bytes ≤ 140737488355328 := Nat.le_trans (Nat.mul_le_mul hn hT.bytes) (by decide)
  obtain ⟨v', w', h1, h2, h3, _, h5⟩ := run_append_own_at (P := P) w base t ty e i z E.sz i.bytes hT.under hT.info hT.zero hT.size rfl hT.cells hT.pos v _ _ ho ⟨b, 0, none⟩ 1 1 us (by rw [hul, Nat.one_mul])
    (fun j u hj => by rw [Addr.add_lit, Nat.zero_add, hl.ld]; exact hj) hr.out.ones (by simp only [maxLen]; omega) hbytes hb
  have e1 : rn P (Builtin.append_ #[t, t] ty #[v, .slice (some ⟨b, 0, none⟩) 1 1]) w f = f v' w' := by simp only [rn, h1]
  rw [e1]
  have hO : OwnX S E e w' base v' (xs ++ [x]) := by
    refine ⟨vs ++ us, by rw [List.length_append]; exact h2, fun w2 hw2 => ?_⟩
    have hg : Gx (fun k => S k ∨ On v k) w w' := (Gx.of_grown h3).wide fun k _ e => .inr e
    have hg2 : Gx (fun k => S k ∨ On v k) w w2 := hg.tr' hw2 fun k hk e => by
      rcases e with e | e
      · exact .inl e
      · rcases h5 with h5 | h5
        · have e : v'.ownBlock = some k := e
          rw [h5] at e; exact .inr e
        · have e : v'.ownBlock = some k := e
          rw [h5] at e; injection e with e; omega
    exact (hs _ hg2).app (hr _ hg2)
  obtain ⟨A, c, rfl, _⟩ := hO.ownE.slice
  have hl : (xs ++ [x]).length = xs.length + 1 := by rw [List.length_append]; rfl
  rw [hl] at hO ⊢
  exact h A c w' hO (Gx.of_grown h3) h3.size
end
end Go.Proofs.YtdcdgmiojlldaaaDoor.Big
