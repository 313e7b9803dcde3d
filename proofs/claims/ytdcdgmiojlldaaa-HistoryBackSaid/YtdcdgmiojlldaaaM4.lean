/- A reading goes step by step: one law for each form that a reading begins with. -/
import Derived.Test.YtdcdgmiojlldaaaM3
namespace Go.Proofs.Ytdcdgmiojlldaaa.Big
open Go Go.RowKit
set_option linter.unusedVariables false
set_option linter.unusedSimpArgs false

/-- It comes to an end, and of that Q is said. -/
def Rt {α : Type} (x : Option α) (Q : α → Prop) : Prop := ∃ r, x = some r ∧ Q r
section
variable {α β : Type} {Q : α → Prop} {w w0 : World} {k : IntKind} {t : TypeId} {l : List Value} {P : Program}
theorem Rt.some' {r : α} (h : Q r) : Rt (some r) Q := ⟨r, rfl, h⟩
theorem Rt.mono {x : Option α} {Q' : α → Prop} (h : Rt x Q') (hq : ∀ r, Q' r → Q r) : Rt x Q := ⟨_, h.choose_spec.1, hq _ h.choose_spec.2⟩
theorem Rt.of {x : Option α} {r : α} (h : x = some r) (hq : Q r) : Rt x Q := ⟨r, h, hq⟩
theorem Rt.fin {x : Option Res} {Q : List Value × World → Prop} (h : Rt x fun r => r.ex = .ret ∧ Q (r.vals, r.w)) : Rt (fin x) Q := by
  obtain ⟨⟨ex, vs, w⟩, rfl, h1, h2⟩ := h
  cases h1
  exact ⟨_, rfl, h2⟩
theorem Rt.ret {Q : List Value × World → Prop} {vs : List Value} {w : World} (h : Q (vs, w)) : Rt (some (⟨.ret, vs, w⟩ : Res)) (fun r => r.ex = .ret ∧ Q (r.vals, r.w)) := ⟨_, rfl, rfl, h⟩
theorem Rt.tL {A : Option Addr} {n c : Nat} {f : Option Addr → Nat → Nat → Option α} (h : Rt (f A n c) Q) : Rt (tL (.slice A n c) f) Q := h
theorem Rt.tI {n : Int} {f : Int → Option α} (h : Rt (f n) Q) : Rt (tI k (.int k n) f) Q := by rw [tI_mk]; exact h
theorem Rt.tB {b : Bool} {f : Bool → Option α} (h : Rt (f b) Q) : Rt (tB (.bool b) f) Q := h
theorem Rt.tS {s : ByteArray} {f : ByteArray → Option α} (h : Rt (f s) Q) : Rt (tS (.string s) f) Q := h
theorem Rt.tP {p : Option Addr} {f : Option Addr → Option α} (h : Rt (f p) Q) : Rt (tP (.pointer p) f) Q := h
theorem Rt.tD {p : Addr} {f : Addr → Option α} (h : Rt (f p) Q) : Rt (tD (.pointer (some p)) f) Q := h
theorem Rt.tM {p : Option Nat} {f : Option Nat → Option α} (h : Rt (f p) Q) : Rt (tM (.map p) f) Q := h
theorem Rt.tF {g : Fn} {a b : Array Value} {f : Fn → Array Value → Array Value → Option α} (h : Rt (f g a b) Q) : Rt (tF (.func g a b) f) Q := h
theorem Rt.tA {cs : List Value} {f : List Value → Option α} (h : Rt (f cs) Q) : Rt (tA (.agg cs.toArray) f) Q := h
theorem Rt.tC {v : Value} {vs : List Value} {f : Value → List Value → Option α} (h : Rt (f v vs) Q) : Rt (tC (v :: vs) f) Q := h
theorem Rt.tN {x : Option α} (h : Rt x Q) : Rt (tN [] x) Q := h
theorem Rt.tG {i : FuncId} {f : FuncId → Option α} (h : Rt (f i) Q) : Rt (tG (.func i) f) Q := h
theorem Rt.os {x : β} {f : β → Option α} (h : Rt (f x) Q) : Rt (opt (some x) f) Q := h
theorem Rt.ol {x : Option β} {v : β} {f : β → Option α} (e : x = some v) (h : Rt (f v) Q) : Rt (opt x f) Q := by rw [e]; exact h
theorem Rt.clS {vs : List Value} {w : World} {f : List Value → World → Option α} (h : Rt (f vs w) Q) : Rt (cl (some (vs, w)) f) Q := h
theorem Rt.cl {x : Option (List Value × World)} {vs : List Value} {w : World} {f : List Value → World → Option α} (e : x = some (vs, w)) (h : Rt (f vs w) Q) : Rt (cl x f) Q := by rw [e]; exact h
theorem Rt.call {x : Option (List Value × World)} {f : List Value → World → Option α} {R : List Value × World → Prop} (e : Rt x R) (h : ∀ vs w, R (vs, w) → Rt (f vs w) Q) : Rt (Big.cl x f) Q := by
  obtain ⟨⟨vs, w⟩, rfl, hr⟩ := e; exact h vs w hr
theorem Rt.jm {x : Option Res} {f : List Value → World → Option Res} {Q : Res → Prop} (h : Rt x fun r => r.ex = .norm ∧ Rt (f r.vals r.w) Q) : Rt (jm x f) Q := by
  obtain ⟨⟨ex, vs, w⟩, rfl, h1, h2⟩ := h
  cases h1; exact h2
theorem Rt.jmN {vs : List Value} {w : World} {f : List Value → World → Option Res} {Q : Res → Prop} (h : Rt (f vs w) Q) : Rt (Big.jm (some ⟨.norm, vs, w⟩) f) Q := h
theorem Rt.jmR {vs : List Value} {w : World} {f : List Value → World → Option Res} {Q : Res → Prop} (h : Q ⟨.ret, vs, w⟩) : Rt (Big.jm (some ⟨.ret, vs, w⟩) f) Q := ⟨_, rfl, h⟩
theorem Rt.jbN {i : Nat} {vs : List Value} {w : World} {f : List Value → World → Option Res} {Q : Res → Prop} (h : Rt (f vs w) Q) : Rt (Big.jb i (some ⟨.norm, vs, w⟩) f) Q := h
theorem Rt.jbR {i : Nat} {vs : List Value} {w : World} {f : List Value → World → Option Res} {Q : Res → Prop} (h : Q ⟨.ret, vs, w⟩) : Rt (Big.jb i (some ⟨.ret, vs, w⟩) f) Q := ⟨_, rfl, h⟩
theorem Rt.jbE {i : Nat} {vs : List Value} {w : World} {f : List Value → World → Option Res} {Q : Res → Prop} (h : Rt (f vs w) Q) : Rt (Big.jb i (some ⟨.exit i, vs, w⟩) f) Q := by rw [jb_exit]; exact h
/-- A block: what comes out of it. -/
theorem Rt.jb {i : Nat} {x : Option Res} {f : List Value → World → Option Res} {Q : Res → Prop} (h : Rt x fun r => (r.ex = .norm ∨ r.ex = .exit i) ∧ Rt (f r.vals r.w) Q ∨ r.ex = .ret ∧ Q r) : Rt (Big.jb i x f) Q := by
  obtain ⟨⟨ex, vs, w⟩, rfl, ⟨h1 | h1, h2⟩ | ⟨h1, h2⟩⟩ := h
  · cases h1; exact h2
  · cases h1; rw [jb_exit]; exact h2
  · cases h1; exact ⟨_, rfl, h2⟩
theorem Rt.al {f : World → Option α} (h : ∀ w1, Lc w1 w.heap.size l → Kp w w1 → w.heap.size < w1.heap.size → Rt (f w1) Q) : Rt (al w l.toArray t f) Q :=
  h _ (Lc.new w l t) ((Kp.rfl' w).al _) (by simp)
theorem Rt.alo {f : World → Option α} (xs : List Int) (n : Nat) (hl : l = xs.map (Value.int k)) (hn : xs.length = n) (hm : n ≤ maxLen)
    (h : ∀ w1, Own k t w1 w.heap.size (.slice (some ⟨w.heap.size, 0, none⟩) n n) xs → Kp w w1 → Rt (f w1) Q) : Rt (Big.al w l.toArray t f) Q := by
  subst hl hn
  exact h _ (Own.lit w xs hm) ((Kp.rfl' w).al _)
theorem Rt.ale {γ : Type} {E : El γ} {f : World → Option α} (xs : List γ) (n : Nat) (hr : Rows E w l xs) (hn : xs.length = n) (hm : n ≤ maxLen)
    (h : ∀ w1, OwnE E t w1 w.heap.size (.slice (some ⟨w.heap.size, 0, none⟩) n n) xs → Kp w w1 → Rt (f w1) Q) : Rt (Big.al w l.toArray t f) Q := by
  subst hn
  exact h _ (OwnE.lit hr hm) ((Kp.rfl' w).al _)
theorem Rt.cT {b : Bool} {x y : Option α} (hb : b = true) (h : Rt x Q) : Rt (cond b x y) Q := by rw [hb]; exact h
theorem Rt.cF {b : Bool} {x y : Option α} (hb : b = false) (h : Rt y Q) : Rt (cond b x y) Q := by rw [hb]; exact h
theorem Rt.cB {b : Bool} {x y : Option α} (h1 : b = true → Rt x Q) (h2 : b = false → Rt y Q) : Rt (cond b x y) Q := by
  cases b
  · exact h2 rfl
  · exact h1 rfl
theorem Rt.cD {p : Prop} [Decidable p] {x y : Option α} (h1 : p → Rt x Q) (h2 : ¬p → Rt y Q) : Rt (cond (decide p) x y) Q :=
  Rt.cB (fun h => h1 (of_decide_eq_true h)) fun h => h2 (of_decide_eq_false h)
theorem Rt.cDT {p : Prop} [Decidable p] {x y : Option α} (hp : p) (h1 : Rt x Q) : Rt (cond (decide p) x y) Q := Rt.cT (decide_eq_true hp) h1
theorem Rt.cDF {p : Prop} [Decidable p] {x y : Option α} (hp : ¬p) (h1 : Rt y Q) : Rt (cond (decide p) x y) Q := Rt.cF (decide_eq_false hp) h1
theorem Rt.cQ {a b : Int} {x y : Option α} (h1 : a = b → Rt x Q) (h2 : a ≠ b → Rt y Q) : Rt (cond (a == b) x y) Q :=
  Rt.cB (fun h => h1 (by simpa using h)) fun h => h2 (by simpa using h)
theorem Rt.cN {a b : Int} {x y : Option α} (h1 : a = b → Rt y Q) (h2 : a ≠ b → Rt x Q) : Rt (cond (a != b) x y) Q :=
  Rt.cB (fun h => h2 (by simpa using h)) fun h => h1 (by simpa using h)
theorem Rt.iF {p : Prop} [Decidable p] {x y : Option α} (hp : ¬p) (h : Rt y Q) : Rt (if p then x else y) Q := by rw [if_neg hp]; exact h
theorem Rt.iT {p : Prop} [Decidable p] {x y : Option α} (hp : p) (h : Rt x Q) : Rt (if p then x else y) Q := by rw [if_pos hp]; exact h
theorem Rt.ck {x : Option Value} {v : Value} {y : Option α} (e : x = some v) (h : Rt y Q) : Rt (Big.ck x v y) Q := by rw [e, ck_self]; exact h
/-! #### Memory -/
theorem Rt.ld0 {b : Nat} {a : Value} {f : Value → Option α} (hl : Lc w b (a :: l)) (h : Rt (f a) Q) : Rt (opt (w.cell? ⟨b, 0, none⟩) f) Q := Rt.ol hl.ld0 h
theorem Rt.ld1 {b : Nat} {a x : Value} {f : Value → Option α} (hl : Lc w b (x :: a :: l)) (h : Rt (f a) Q) : Rt (opt (w.cell? (Addr.add ⟨b, 0, none⟩ 1)) f) Q := Rt.ol hl.ld1 h
theorem Rt.ld2 {b : Nat} {a x y : Value} {f : Value → Option α} (hl : Lc w b (x :: y :: a :: l)) (h : Rt (f a) Q) : Rt (opt (w.cell? (Addr.add ⟨b, 0, none⟩ 2)) f) Q := Rt.ol hl.ld2 h
theorem Rt.ld3 {b : Nat} {a x y z : Value} {f : Value → Option α} (hl : Lc w b (x :: y :: z :: a :: l)) (h : Rt (f a) Q) : Rt (opt (w.cell? (Addr.add ⟨b, 0, none⟩ 3)) f) Q := Rt.ol hl.ld3 h
theorem Rt.ld4 {b : Nat} {a x y z u : Value} {f : Value → Option α} (hl : Lc w b (x :: y :: z :: u :: a :: l)) (h : Rt (f a) Q) : Rt (opt (w.cell? (Addr.add ⟨b, 0, none⟩ 4)) f) Q := Rt.ol hl.ld4 h
theorem Rt.st0 {b : Nat} {x v : Value} {f : World → Option α} (hl : Lc w b (x :: l)) (h : ∀ w1, Lc w1 b (v :: l) → Gx (fun k => k = b) w w1 → Rt (f w1) Q) : Rt (stC w ⟨b, 0, none⟩ v f) Q := by
  obtain ⟨h1, h2, h3⟩ := hl.st 0 (by simp) v
  rw [h3]; exact h _ h1 h2
theorem Rt.st1 {b : Nat} {x a v : Value} {f : World → Option α} (hl : Lc w b (a :: x :: l)) (h : ∀ w1, Lc w1 b (a :: v :: l) → Gx (fun k => k = b) w w1 → Rt (f w1) Q) : Rt (stC w (Addr.add ⟨b, 0, none⟩ 1) v f) Q := by
  obtain ⟨h1, h2, h3⟩ := hl.st 1 (by simp) v
  rw [Addr.add_lit, h3]; exact h _ h1 h2
theorem Rt.st2 {b : Nat} {x y a v : Value} {f : World → Option α} (hl : Lc w b (a :: y :: x :: l)) (h : ∀ w1, Lc w1 b (a :: y :: v :: l) → Gx (fun k => k = b) w w1 → Rt (f w1) Q) : Rt (stC w (Addr.add ⟨b, 0, none⟩ 2) v f) Q := by
  obtain ⟨h1, h2, h3⟩ := hl.st 2 (by simp) v
  rw [Addr.add_lit, h3]; exact h _ h1 h2
theorem Rt.st3 {b : Nat} {x y z a v : Value} {f : World → Option α} (hl : Lc w b (a :: y :: z :: x :: l)) (h : ∀ w1, Lc w1 b (a :: y :: z :: v :: l) → Gx (fun k => k = b) w w1 → Rt (f w1) Q) : Rt (stC w (Addr.add ⟨b, 0, none⟩ 3) v f) Q := by
  obtain ⟨h1, h2, h3⟩ := hl.st 3 (by simp) v
  rw [Addr.add_lit, h3]; exact h _ h1 h2
/-- A local struct that is filled cell by cell from what is a row of cells. -/
theorem Rt.al3 {a b c : Value} {x y z : Value} {f : World → Option α} (h : ∀ w1, Lc w1 w.heap.size [a, b, c] → Kp w w1 → w.heap.size < w1.heap.size → Rt (f w1) Q) :
    Rt (Big.al w #[x, y, z] t fun w1 => stC w1 ⟨w.heap.size, 0, none⟩ a fun w2 => stC w2 (Addr.add ⟨w.heap.size, 0, none⟩ 1) b fun w3 => stC w3 (Addr.add ⟨w.heap.size, 0, none⟩ 2) c f) Q := by
  show Rt (stC (w.alloc (.cells [x, y, z].toArray t)) ⟨w.heap.size, 0, none⟩ a fun w2 => stC w2 (Addr.add ⟨w.heap.size, 0, none⟩ 1) b fun w3 => stC w3 (Addr.add ⟨w.heap.size, 0, none⟩ 2) c f) Q
  rw [sta0, sta1, sta2]
  exact h _ (Lc.new w _ t) ((Kp.rfl' w).al _) (by simp)
theorem Rt.al4 {a b c d : Value} {x y z u : Value} {f : World → Option α} (h : ∀ w1, Lc w1 w.heap.size [a, b, c, d] → Kp w w1 → w.heap.size < w1.heap.size → Rt (f w1) Q) :
    Rt (Big.al w #[x, y, z, u] t fun w1 => stC w1 ⟨w.heap.size, 0, none⟩ a fun w2 => stC w2 (Addr.add ⟨w.heap.size, 0, none⟩ 1) b fun w3 => stC w3 (Addr.add ⟨w.heap.size, 0, none⟩ 2) c fun w4 => stC w4 (Addr.add ⟨w.heap.size, 0, none⟩ 3) d f) Q := by
  show Rt (stC (w.alloc (.cells [x, y, z, u].toArray t)) ⟨w.heap.size, 0, none⟩ a fun w2 => stC w2 (Addr.add ⟨w.heap.size, 0, none⟩ 1) b fun w3 => stC w3 (Addr.add ⟨w.heap.size, 0, none⟩ 2) c fun w4 => stC w4 (Addr.add ⟨w.heap.size, 0, none⟩ 3) d f) Q
  rw [sta0, sta1, sta2, sta3]
  exact h _ (Lc.new w _ t) ((Kp.rfl' w).al _) (by simp)
theorem Rt.ix {A : Option Addr} {n : Nat} {xs : List Int} (hs : Sl k w A n xs) {i : Int} (h0 : 0 ≤ i) (h1 : i < n) {f : Int → Option α} (h : Rt (f (xs.getD i.toNat 0)) Q) : Rt (ixA A n i 1 fun a => opt (w.cell? a) fun v => Big.tI k v f) Q := by
  rw [hs.ix h0 h1]; exact h
theorem Rt.ixe {γ : Type} {E : El γ} {A : Option Addr} {n sz : Nat} {xs : List γ} (hs : SlE E w A n xs) (hz : E.sz = sz) {i : Int} (h0 : 0 ≤ i) (h1 : i < n) {f : Addr → Option α}
    (h : ∀ x a us, xs[i.toNat]? = some x → us.length = sz → E.rd w us x → (∀ j u, us[j]? = some u → w.cell? (a.add j) = some u) → Rt (f a) Q) : Rt (ixA A n i sz f) Q := by
  subst hz
  obtain ⟨x, a, us, e1, e2, e3, e4, e5⟩ := hs.at_ h0 h1
  rw [e2]; exact h x a us e1 e3 e4 e5
theorem Rt.cut {A : Option Addr} {n c : Nat} {xs : List Int} (hs : Bv k w A n c xs) {lo hi : Int} (h0 : 0 ≤ lo) (h1 : lo ≤ hi) (h2 : hi ≤ n) {f : Option Addr → Nat → Nat → Option α}
    (h : ∀ B, Bv k w B (hi.toNat - lo.toNat) (c - lo.toNat) ((xs.take hi.toNat).drop lo.toNat) → Rt (f B (hi.toNat - lo.toNat) (c - lo.toNat)) Q) : Rt (cutS A c lo hi 1 f) Q := by
  obtain ⟨B, e, s, hn, hle⟩ := hs.sl.cut (c := c) h0 h1 h2 hs.cap
  rw [e]
  refine h B ⟨s, fun hB => ?_, hle, Nat.le_trans (Nat.sub_le _ _) hs.max, fun x hx => hs.rng x (List.mem_of_mem_take (List.mem_of_mem_drop hx))⟩
  cases A with
  | none => have := hs.nil rfl; omega
  | some a =>
    have := e (α := Option Addr) fun A' _ _ => some A'
    rw [cutS, if_pos ⟨h0, h1, by have := hs.cap; omega⟩] at this
    injection this with this
    rw [hB] at this
    split at this <;> simp at this
theorem Rt.cutE {γ : Type} {E : El γ} {A : Option Addr} {n c sz : Nat} {xs : List γ} (hs : Ev E w A n c xs) (hz : E.sz = sz) {lo hi : Int} (h0 : 0 ≤ lo) (h1 : lo ≤ hi) (h2 : hi ≤ n) {f : Option Addr → Nat → Nat → Option α}
    (h : ∀ B, Ev E w B (hi.toNat - lo.toNat) (c - lo.toNat) ((xs.take hi.toNat).drop lo.toNat) → Rt (f B (hi.toNat - lo.toNat) (c - lo.toNat)) Q) : Rt (cutS A c lo hi sz f) Q := by
  subst hz
  obtain ⟨B, e, s, hn, hle⟩ := hs.sl.cut (c := c) h0 h1 h2 hs.cap
  rw [e]
  refine h B ⟨s, fun hB => ?_, hle, Nat.le_trans (Nat.sub_le _ _) hs.max⟩
  cases A with
  | none => have := hs.nil rfl; omega
  | some a =>
    have := e (β := Option Addr) fun A' _ _ => some A'
    rw [cutS, if_pos ⟨h0, h1, by have := hs.cap; omega⟩] at this
    injection this with this
    rw [hB] at this
    split at this <;> simp at this
end

/-! ### Rows of the call's own, as arguments -/
section
variable {P : Program} {k : IntKind} {e t : TypeId} {w w0 : World} {base : Nat} {A : Option Addr} {l c : Nat} {xs ys : List Int}
theorem Own.bv (h : Own k e w base (.slice A l c) xs) (hr : ∀ x ∈ xs, (Lit.int k x).wf = true) : Bv k w A l c xs := by
  refine ⟨h.sl.2, fun hA => ?_, ?_, ?_, hr⟩
  · subst hA
    rcases h.2 with ⟨h', hn'⟩ | ⟨g, cap, cur, h', _⟩
    · injection h' with _ h1 h2; exact ⟨h1, h2⟩
    · injection h' with h1 _ _; cases h1
  · have := h.sl.1
    rcases h.2 with ⟨h', hn'⟩ | ⟨g, cap, cur, h', _, _, hle, _⟩
    · injection h' with _ h' _; omega
    · injection h' with _ _ h'; subst h'; omega
  · rcases h.2 with ⟨h', hn'⟩ | ⟨g, cap, cur, h', _, _, hle, hm, _⟩
    · injection h' with _ _ h'; subst h'; exact Nat.zero_le _
    · injection h' with _ _ h'; subst h'; exact hm
theorem OwnE.ev {γ : Type} {E : El γ} {xs : List γ} (h : OwnE E e w base (.slice A l c) xs) : Ev E w A l c xs := by
  obtain ⟨h1, h2⟩ := h.sl
  obtain ⟨A', c', h3, h4, h5⟩ := h.slice
  injection h3 with h6 h7 h8
  subst h6 h8
  refine ⟨h2, fun hA => by have := h4 hA; omega, by omega, ?_⟩
  obtain ⟨vs, h, _⟩ := h
  rcases h.2 with ⟨h', hn'⟩ | ⟨g, cap, cur, h', _, _, hle, hm, _⟩
  · injection h' with _ _ h'; subst h'; exact Nat.zero_le _
  · injection h' with _ _ h'; subst h'; exact hm
/-- append(own, came..) -/
theorem Rt.app {α : Type} {Q : α → Prop} {i : TypeInfo} (hT : SlT P t e k i) {ty : TypeId} {v : Value} (ho : Own k e w base v xs) {B : Option Addr} {m d : Nat} (hs : Sl k w B m ys) (hB : B = none → m = 0 ∧ d = 0) (hn : xs.length + m ≤ 2 ^ 40) (hb : base ≤ w.heap.size)
    {f : Value → World → Option α} (h : ∀ A c w', Own k e w' base (.slice A (xs.length + m) c) (xs ++ ys) → (∀ w0 : World, Kp w0 w → w0.heap.size ≤ base → Kp w0 w') → w.grownBy w' v.ownBlock → w.heap.size ≤ w'.heap.size → Rt (f (.slice A (xs.length + m) c) w') Q) :
    Rt (rn P (Builtin.append_ #[t, t] ty #[v, .slice B m d]) w f) Q := by
  obtain ⟨v', w', h1, h2, h3, h4⟩ := append_run hT w base ty ho hs hB hn hb
  rw [h1]
  obtain ⟨A, c, rfl⟩ := h2.slice
  have hl : (xs ++ ys).length = xs.length + m := by rw [List.length_append, hs.1]
  rw [hl] at h2 ⊢
  exact h A c w' h2 (fun w0 hk hle => hk.gr h3 fun b hb => Nat.le_trans hle (ho.lt b hb).1) h3 h3.size
/-- append([]T(nil), came..) -/
theorem Rt.app0 {α : Type} {Q : α → Prop} {i : TypeInfo} (hT : SlT P t e k i) {ty : TypeId} {B : Option Addr} {m d : Nat} (hs : Sl k w B m ys) (hB : B = none → m = 0 ∧ d = 0) (hn : m ≤ 2 ^ 40)
    {f : Value → World → Option α} (h : ∀ A c w', Own k e w' w.heap.size (.slice A m c) ys → Kp w w' → Rt (f (.slice A m c) w') Q) : Rt (rn P (Builtin.append_ #[t, t] ty #[.slice none 0 0, .slice B m d]) w f) Q := by
  refine Rt.app hT (Own.nil w w.heap.size) hs hB (by simpa using hn) (Nat.le_refl _) fun A c w' o hk _ _ => ?_
  rw [List.length_nil, Nat.zero_add] at o ⊢
  rw [List.nil_append] at o
  exact h A c w' o (hk w (Kp.rfl' w) (Nat.le_refl _))
theorem Rt.appE {α γ : Type} {E : El γ} {Q : α → Prop} {i : TypeInfo} {z : Value} {sz : Nat} (hz : E.sz = sz) (hT : SlTE P t e sz i z) {ty : TypeId} {v : Value} {xs ys : List γ} (ho : OwnE E e w base v xs) {B : Option Addr} {m d : Nat} {news : List Value} (hl : ys.length = m) (hB : B = none → m = 0 ∧ d = 0)
    (hc : ∀ a, B = some a → ∀ j u, news[j]? = some u → w.cell? (a.add j) = some u) (hone : ∀ u ∈ news, u.oneCell' = true) (hr : Stb (On v) (fun w => Rows E w news ys) w) (hn : xs.length + m ≤ 2 ^ 36) (hb : base ≤ w.heap.size)
    {f : Value → World → Option α} (h : ∀ A c w', OwnE E e w' base (.slice A (xs.length + m) c) (xs ++ ys) → (∀ w0 : World, Kp w0 w → w0.heap.size ≤ base → Kp w0 w') → w.grownBy w' v.ownBlock → w.heap.size ≤ w'.heap.size → Rt (f (.slice A (xs.length + m) c) w') Q) :
    Rt (rn P (Builtin.append_ #[t, t] ty #[v, .slice B m d]) w f) Q := by
  subst hz
  obtain ⟨v', w', h1, h2, h3, h4⟩ := append_runE hT ty ho hl hB hc hone hr hn hb
  rw [h1]
  obtain ⟨A, c, rfl, _⟩ := h2.slice
  have hl : (xs ++ ys).length = xs.length + m := by rw [List.length_append, hl]
  rw [hl] at h2 ⊢
  exact h A c w' h2 (fun w0 hk hle => hk.gr h3 fun b hb => Nat.le_trans hle (ho.lt b hb).1) h3 h3.size
theorem Rt.mk {α : Type} {Q : α → Prop} {i : TypeInfo} (hT : SlT P t e k i) {n : Int} (h0 : 0 ≤ n) (hn : n ≤ 2 ^ 40) {f : Value → World → Option α}
    (h : ∀ w', Own k e w' w.heap.size (.slice (some ⟨w.heap.size, 0, none⟩) n.toNat n.toNat) (List.replicate n.toNat 0) → Kp w w' → Rt (f (.slice (some ⟨w.heap.size, 0, none⟩) n.toNat n.toNat) w') Q) : Rt (rn P (Instr.makeSlice t (.int .i64 n) (.int .i64 n)) w f) Q := by
  obtain ⟨w', h1, h2, h3⟩ := make_run (P := P) hT w n.toNat (by omega)
  have e : ((n.toNat : Nat) : Int) = n := by omega
  rw [e] at h1
  rw [h1]; exact h w' h2 h3
/-! ### []byte("..") -/
theorem mark_run (P : Program) (a : Addr) (w : World) : ∃ w', (markStringish a).run P w = .ok () w' ∧ (∀ p, w'.cell? p = w.cell? p) ∧ ∀ w0 : World, Kp w0 w → w0.heap.size ≤ a.block → Kp w0 w' := by
  unfold markStringish
  cases hs : w.shape? a.block with
  | none => exact ⟨w, by simp [hs], fun _ => rfl, fun _ h _ => h⟩
  | some p =>
    refine ⟨w.freeze { block := a.block, off := p.2 } 1, by simp [hs], fun q => ?_, fun w0 h hb => ?_⟩
    · unfold World.freeze
      rw [if_neg (by decide)]
      simp only [World.cell?, Array.getElem?_modify]
      by_cases hq : a.block = q.block
      · rw [if_pos hq]
        cases w.heap[q.block]? with
        | none => rfl
        | some o => cases o <;> rfl
      · rw [if_neg hq]
    · refine h.trans ⟨rfl, rfl, rfl, by simp [World.freeze], fun k hk => ?_⟩
      unfold World.freeze
      rw [if_neg (by decide)]
      simp only [Array.getElem?_modify]
      rw [if_neg (by omega)]
theorem Sl_same {k : IntKind} {w w' : World} {A : Option Addr} {l : Nat} {xs : List Int} (h : Sl k w A l xs) (hc : ∀ p, w'.cell? p = w.cell? p) : Sl k w' A l xs :=
  ⟨h.1, h.2.imp id fun ⟨a, ha, hi⟩ => ⟨a, ha, fun i hl => by rw [hc]; exact hi i hl⟩⟩
def ConvB (P : Program) (t : TypeId) : Prop := ∀ (a : Addr) (l c : Nat) (w : World), (Go.convert t t (.slice (some a) l c)).run P w = (do markStringish a; pure (Value.slice (some a) l c) : Sem Value).run P w
theorem Rt.conv {α : Type} {Q : α → Prop} (hC : ConvB P t) {a : Addr} (hs : Bv k w (some a) l c xs) (hk : Kp w0 w) (hb : w0.heap.size ≤ a.block) {f : Value → World → Option α}
    (h : ∀ w', Bv k w' (some a) l c xs → Kp w0 w' → Rt (f (.slice (some a) l c) w') Q) : Rt (rn P (Go.convert t t (.slice (some a) l c)) w f) Q := by
  obtain ⟨w', h1, h2, h3⟩ := mark_run P a w
  have e : rn P (Go.convert t t (.slice (some a) l c)) w f = f (.slice (some a) l c) w' := by simp only [rn, hC a l c w, Sem.run_bind, h1]; rfl
  rw [e]
  exact h w' ⟨Sl_same hs.sl h2, hs.nil, hs.cap, hs.max, hs.rng⟩ (h3 w0 hk hb)
/-- The whole of a literal. -/
theorem Rt.lit {α : Type} {Q : α → Prop} (hC : ConvB P t) (xs : List Int) (n : Nat) {l : List Value} (hl : l = xs.map (Value.int k)) (hn : xs.length = n) (hm : n ≤ maxLen) (hr : ∀ x ∈ xs, (Lit.int k x).wf = true) {f : Value → World → Option α}
    (h : ∀ A w', Bv k w' A n n xs → Kp w w' → Rt (f (.slice A n n) w') Q) : Rt (Big.al w l.toArray e fun w1 => rn P (Go.convert t t (.slice (some ⟨w.heap.size, 0, none⟩) n n)) w1 f) Q := by
  refine Rt.alo xs n hl hn hm fun w1 o1 k1 => ?_
  exact Rt.conv hC (o1.bv hr) k1 (Nat.le_refl _) fun w' b' k' => h _ w' b' k'

/-! ### Strings -/
def str (xs : List Int) : ByteArray := ⟨(xs.map fun (x : Int) => UInt8.ofNat x.toNat).toArray⟩
theorem rdB_ok {w : World} {a : Addr} : ∀ (m i : Nat) (xs : List Int), (∀ j, j < m → w.cell? (a.add (i + j)) = some (.int .u8 (xs.getD j 0))) → xs.length = m → rdB w a m i = some (xs.map fun (x : Int) => UInt8.ofNat x.toNat)
  | 0, i, xs, _, hl => by
    have : xs = [] := List.length_eq_zero_iff.1 hl
    subst this; rfl
  | m + 1, i, [], h, hl => by simp at hl
  | m + 1, i, x :: xs, h, hl => by
    have h0 := h 0 (by omega)
    have hr := rdB_ok m (i + 1) xs (fun j hj => by have := h (j + 1) (by omega); rw [show i + (j + 1) = i + 1 + j by omega] at this; simpa using this) (by simpa using hl)
    show (opt (w.cell? (a.add i)) fun v => tI .u8 v fun x => opt (rdB w a m (i + 1)) fun l => some (UInt8.ofNat x.toNat :: l)) = _
    have h0 : w.cell? (a.add i) = some (.int .u8 x) := h0
    rw [h0, opt_some, tI_mk, hr, opt_some]; rfl
theorem strOf_ok {w : World} {A : Option Addr} {l : Nat} {xs : List Int} (h : Sl .u8 w A l xs) : strOf w A l = some (str xs) := by
  rcases h.2 with hn | ⟨a, rfl, hc⟩
  · subst hn
    have hl : l = 0 := h.1.symm
    subst hl
    cases A with
    | none => rfl
    | some a => rfl
  · show (opt (rdB w a l 0) fun l => some (⟨l.toArray⟩ : ByteArray)) = _
    rw [rdB_ok l 0 xs (fun j hj => by rw [Nat.zero_add]; exact hc j hj) h.1, opt_some]; rfl
theorem str_toList (xs : List Int) : (str xs).toList = xs.map fun (x : Int) => UInt8.ofNat x.toNat := by rw [str, ByteArray.toList_mk]
theorem u8wf {x : Int} (h : (Lit.int .u8 x).wf = true) : 0 ≤ x ∧ x < 256 := by
  have h : IntKind.u8.min ≤ x ∧ x ≤ IntKind.u8.max := by simpa [Lit.wf] using h
  have h1 : IntKind.u8.min = 0 := rfl
  have h2 : IntKind.u8.max = 255 := rfl
  omega
theorem str_inj : ∀ {xs ys : List Int}, (∀ x ∈ xs, (Lit.int .u8 x).wf = true) → (∀ x ∈ ys, (Lit.int .u8 x).wf = true) → (xs.map fun (x : Int) => UInt8.ofNat x.toNat) = (ys.map fun (x : Int) => UInt8.ofNat x.toNat) → xs = ys
  | [], [], _, _, _ => rfl
  | [], y :: ys, _, _, h => by simp at h
  | x :: xs, [], _, _, h => by simp at h
  | x :: xs, y :: ys, hx, hy, h => by
    simp only [List.map_cons, List.cons.injEq] at h
    have h1 := u8wf (hx x List.mem_cons_self)
    have h2 := u8wf (hy y List.mem_cons_self)
    have h3 := congrArg UInt8.toNat h.1
    simp only [UInt8.toNat_ofNat'] at h3
    rw [str_inj (fun z hz => hx z (List.mem_cons_of_mem _ hz)) (fun z hz => hy z (List.mem_cons_of_mem _ hz)) h.2]
    congr 1
    omega
theorem str_eq {xs ys : List Int} (hx : ∀ x ∈ xs, (Lit.int .u8 x).wf = true) (hy : ∀ x ∈ ys, (Lit.int .u8 x).wf = true) : ((str xs).toList == (str ys).toList) = decide (xs = ys) := by
  rw [str_toList, str_toList]
  by_cases h : xs = ys
  · subst h; simp
  · rw [decide_eq_false h]
    simp only [beq_eq_false_iff_ne, ne_eq]
    exact fun h' => h (str_inj hx hy h')
/-! ### Calls and what they answer -/
def RB (p : Prop) (w0 : World) : List Value × World → Prop := fun r => ∃ b w', r = ([.bool b], w') ∧ (b = true ↔ p) ∧ Kp w0 w'
def RI (k : IntKind) (x : Int) (w0 : World) : List Value × World → Prop := fun r => ∃ w', r = ([.int k x], w') ∧ Kp w0 w'
section
variable {α : Type} {Q : α → Prop} {w w0 : World} {k : IntKind}
theorem Rt.cI {x : Option (List Value × World)} {v : Int} (h : Rt x (RI k v w0)) {f : Int → World → Option α} (hf : ∀ w1, Kp w0 w1 → Rt (f v w1) Q) : Rt (Big.cl x fun vs w => Big.tC vs fun u cs => Big.tI k u fun n => Big.tN cs (f n w)) Q := by
  obtain ⟨_, rfl, w1, rfl, k1⟩ := h
  rw [cl1I]; exact hf w1 k1
theorem Rt.cBo {x : Option (List Value × World)} {p : Prop} (h : Rt x (RB p w0)) {f : Bool → World → Option α} (hf : ∀ b w1, (b = true ↔ p) → Kp w0 w1 → Rt (f b w1) Q) : Rt (Big.cl x fun vs w => Big.tC vs fun u cs => Big.tB u fun n => Big.tN cs (f n w)) Q := by
  obtain ⟨_, rfl, b, w1, rfl, hb, k1⟩ := h
  rw [cl1B]; exact hf b w1 hb k1
theorem Rt.cBt {x : Option (List Value × World)} {p : Prop} (h : Rt x (RB p w0)) (hp : p) {f : Bool → World → Option α} (hf : ∀ w1, Kp w0 w1 → Rt (f true w1) Q) : Rt (Big.cl x fun vs w => Big.tC vs fun u cs => Big.tB u fun n => Big.tN cs (f n w)) Q :=
  Rt.cBo h fun b w1 hb k1 => by rw [hb.2 hp]; exact hf w1 k1
theorem Rt.ckR {x : Option Value} {v : Value} {y : Option α} (e : Rt x fun u => u = v) (h : Rt y Q) : Rt (Big.ck x v y) Q := by
  obtain ⟨_, e, rfl⟩ := e; exact Rt.ck e h
theorem Rt.str {A : Option Addr} {l c : Nat} {xs : List Int} (hb : Bv .u8 w A l c xs) {f : ByteArray → Option α} (h : Rt (f (Big.str xs)) Q) : Rt (opt (strOf w A l) f) Q := by
  rw [strOf_ok hb.sl, opt_some]; exact h
theorem Rt.cS {xs ys : List Int} {x y : Option α} (hx : ∀ x ∈ xs, (Lit.int .u8 x).wf = true) (hy : ∀ x ∈ ys, (Lit.int .u8 x).wf = true) (h1 : xs = ys → Rt x Q) (h2 : xs ≠ ys → Rt y Q) : Rt (cond ((Big.str xs).toList == (Big.str ys).toList) x y) Q := by
  rw [str_eq hx hy]; exact Rt.cD h1 h2
theorem Rt.cSn {xs ys : List Int} {x y : Option α} (hx : ∀ x ∈ xs, (Lit.int .u8 x).wf = true) (hy : ∀ x ∈ ys, (Lit.int .u8 x).wf = true) (h1 : xs = ys → Rt y Q) (h2 : xs ≠ ys → Rt x Q) : Rt (cond (!((Big.str xs).toList == (Big.str ys).toList)) x y) Q := by
  rw [str_eq hx hy]
  exact Rt.cB (fun h => h2 (by simpa using h)) fun h => h1 (by simpa using h)
theorem RB.out {x : Option (List Value × World)} {p : Prop} (h : Rt x (RB p w0)) (hp : p) : ∃ w', x = some ([.bool true], w') ∧ Kp w0 w' := by
  obtain ⟨_, rfl, b, w1, rfl, hb, k1⟩ := h
  rw [hb.2 hp]; exact ⟨w1, rfl, k1⟩
theorem Rt.endB {w' : World} {b : Bool} {p : Prop} (h : b = true ↔ p) (hk : Kp w0 w') : Rt (some (⟨.ret, [.bool b], w'⟩ : Res)) (fun r => r.ex = .ret ∧ RB p w0 (r.vals, r.w)) := ⟨_, rfl, rfl, b, w', rfl, h, hk⟩
theorem Rt.endI {w' : World} {v v' : Int} (h : v = v') (hk : Kp w0 w') : Rt (some (⟨.ret, [.int k v], w'⟩ : Res)) (fun r => r.ex = .ret ∧ RI k v' w0 (r.vals, r.w)) := ⟨_, rfl, rfl, w', by rw [h], hk⟩
end
end
end Go.Proofs.Ytdcdgmiojlldaaa.Big
