/- Rows of structs that stay readable while other blocks of the call's own are written. -/
import Derived.Test.YtdcdgmiojlldaaaMP
namespace Go.Proofs.Ytdcdgmiojlldaaa.Big
open Go Go.RowKit
set_option linter.unusedVariables false
set_option linter.unusedSimpArgs false
section
variable {α γ : Type} {E : El γ} {Q : α → Prop} {P : Program} {t e : TypeId} {w w' w0 : World} {base : Nat} {v : Value} {xs ys : List γ} {S S' : Nat → Prop} {i : TypeInfo} {z : Value} {A : Option Addr} {l c n d : Nat}
/-- append(own, x), the one x in a block made for it. -/
theorem Rt.app1X {sz : Nat} (hz : E.sz = sz) (hT : SlTE P t e sz i z) {ty : TypeId} (ho : OwnX S E e w base v xs) {us : List Value} {x : γ} (hul : us.length = sz) (hx : Stb (fun k => S k ∨ On v k) (fun w => E.rd w us x) w) (hn : xs.length + 1 ≤ 2 ^ 36) (hb : base ≤ w.heap.size)
    {f : Value → World → Option α} (h : ∀ A c w', OwnX S E e w' base (.slice A (xs.length + 1) c) (xs ++ [x]) → Gx (On v) w w' → w.heap.size < w'.heap.size → Rt (f (.slice A (xs.length + 1) c) w') Q) :
    Rt (Big.al w us.toArray e fun w1 => rn P (Builtin.append_ #[t, t] ty #[v, .slice (some ⟨w.heap.size, 0, none⟩) 1 1]) w1 f) Q :=
  Rt.al fun w1 l1 k1 s1 => Rt.app1L hz hT (ho.kp k1) l1 hul (hx.kp k1) hn (Nat.le_trans hb k1.size) fun A c w' o g s => h A c w' o (k1.gx.tr g) (Nat.lt_of_lt_of_le s1 s)
/-- A literal row of one. -/
theorem OwnX.lit1 {us : List Value} {x : γ} (hul : us.length = E.sz) (hx : Stb S (fun w => E.rd w us x) w) (hS : ∀ k, S k → k < w.heap.size) (h1 : 0 < E.sz) : OwnX S E e (w.alloc (.cells us.toArray e)) w.heap.size (.slice (some ⟨w.heap.size, 0, none⟩) 1 1) [x] := by
  refine ⟨us, ?_, fun w' hw' => ?_⟩
  · have := World.ownsRow_lit (base := w.heap.size) (e := e) (size := E.sz) w us.toArray 1 (Nat.le_refl _) (by decide) (by simp [hul])
    simpa using this
  · have hg : Gx S w w' := ((Kp.rfl' w).al _).gx.tr' hw' fun k hk e => by
      rcases e with e | e
      · exact e
      · have e : some w.heap.size = some k := e
        injection e with e; omega
    exact Rows.one (hx w' hg) hul
theorem Rt.ale1 {us : List Value} {x : γ} (hul : us.length = E.sz) (hx : Stb S (fun w => E.rd w us x) w) (hS : ∀ k, S k → k < w.heap.size) (h1 : 0 < E.sz) {f : World → Option α}
    (h : ∀ w1, OwnX S E e w1 w.heap.size (.slice (some ⟨w.heap.size, 0, none⟩) 1 1) [x] → Kp w w1 → w.heap.size < w1.heap.size → Rt (f w1) Q) : Rt (Big.al w us.toArray e f) Q :=
  h _ (OwnX.lit1 hul hx hS h1) ((Kp.rfl' w).al _) (by simp)
theorem OwnX.stb (h : OwnX S E e w base (.slice A l c) xs) (hn : ∀ k, S k → k < base) : Stb S (fun w => Ev E w A l c xs) w := fun w' hg =>
  (h.gx hg (fun _ _ h => h) fun k hk hv => by have := (h.lt k hv).1; have := hn k hk; omega).ownE.ev
/-- A cut, whatever turns. -/
theorem Rt.cutES {sz : Nat} (hs : Stb S (fun w => Ev E w A n c xs) w) (hz : E.sz = sz) {lo hi : Int} (h0 : 0 ≤ lo) (h1 : lo ≤ hi) (h2 : hi ≤ n) {f : Option Addr → Nat → Nat → Option α}
    (h : ∀ B, Stb S (fun w => Ev E w B (hi.toNat - lo.toNat) (c - lo.toNat) ((xs.take hi.toNat).drop lo.toNat)) w → Rt (f B (hi.toNat - lo.toNat) (c - lo.toNat)) Q) : Rt (cutS A c lo hi sz f) Q := by
  have hc : 0 ≤ lo ∧ lo ≤ hi ∧ hi ≤ (c : Int) := ⟨h0, h1, by have := hs.out.cap; omega⟩
  rw [cutS, if_pos hc]
  refine h _ fun w' hg => ?_
  have key : Rt (cutS A c lo hi sz fun B m d => some B) (fun B => Ev E w' B (hi.toNat - lo.toNat) (c - lo.toNat) ((xs.take hi.toNat).drop lo.toNat)) := Rt.cutE (hs w' hg) hz h0 h1 h2 fun B hB => Rt.some' hB
  rw [cutS, if_pos hc] at key
  obtain ⟨_, e, hB⟩ := key
  injection e with e
  subst e
  exact hB
/-- append(own, x), with what is told of the row's block. -/
theorem Rt.app1fL {sz : Nat} (hz : E.sz = sz) (hT : SlTE P t e sz i z) {ty : TypeId} (ho : OwnE E e w base v xs) {us : List Value} {x : γ} {b : Nat} (hL : Lc w b us) (hl : us.length = sz) (hx : Stb (On v) (fun w => E.rd w us x) w) (hn : xs.length + 1 ≤ 2 ^ 36) (hb : base ≤ w.heap.size)
    {f : Value → World → Option α} (h : ∀ A c w', OwnE E e w' base (.slice A (xs.length + 1) c) (xs ++ [x]) → Gx (On v) w w' → (∀ j, On (.slice A (xs.length + 1) c) j → On v j ∨ w.heap.size ≤ j) → Rt (f (.slice A (xs.length + 1) c) w') Q) :
    Rt (rn P (Builtin.append_ #[t, t] ty #[v, .slice (some ⟨b, 0, none⟩) 1 1]) w f) Q := by
  subst hz
  have hr : Stb (On v) (fun w => Rows E w us [x]) w := fun w' hg => Rows.one (hx w' hg) hl
  obtain ⟨v', w', h1, h2, h3, h4⟩ := append_runE (c := 1) (A := some ⟨b, 0, none⟩) hT ty ho (m := 1) (ys := [x]) (news := us) rfl (fun h => by cases h) (fun a ha j u hj => by injection ha with ha; subst ha; rw [Addr.add_lit, Nat.zero_add, hL.ld]; exact hj) hr.out.ones hr hn hb
  rw [h1]
  obtain ⟨A, c, rfl, _⟩ := h2.slice
  have hl : (xs ++ [x]).length = xs.length + 1 := by rw [List.length_append]; rfl
  rw [hl] at h2 h4 ⊢
  refine h A c w' h2 ((Gx.of_grown h3).wide fun k _ e => e) (fun j hj => ?_)
  have hj : (Value.slice A (xs.length + 1) c).ownBlock = some j := hj
  rcases h4 with h4 | h4
  · exact .inl (by rw [h4] at hj; exact hj)
  · rw [h4] at hj; injection hj with hj; exact .inr (by omega)
theorem Rt.app1f {sz : Nat} (hz : E.sz = sz) (hT : SlTE P t e sz i z) {ty : TypeId} (ho : OwnE E e w base v xs) {us : List Value} {x : γ} (hl : us.length = sz) (hx : Stb (On v) (fun w => E.rd w us x) w) (hn : xs.length + 1 ≤ 2 ^ 36) (hb : base ≤ w.heap.size)
    {f : Value → World → Option α} (h : ∀ A c w', OwnE E e w' base (.slice A (xs.length + 1) c) (xs ++ [x]) → Gx (On v) w w' → (∀ j, On (.slice A (xs.length + 1) c) j → On v j ∨ w.heap.size ≤ j) → w.heap.size < w'.heap.size → Rt (f (.slice A (xs.length + 1) c) w') Q) :
    Rt (Big.al w us.toArray e fun w1 => rn P (Builtin.append_ #[t, t] ty #[v, .slice (some ⟨w.heap.size, 0, none⟩) 1 1]) w1 f) Q :=
  Rt.al fun w1 l1 k1 hs1 => Rt.app1fL hz hT (ho.kp k1) l1 hl (hx.kp k1) hn (Nat.le_trans hb k1.size) fun A c w' o g ff => h A c w' o (k1.gx.tr g) (fun j hj => (ff j hj).imp id fun h => by omega) (by have := g.size; omega)
/-- Where ways meet, some of which have left. -/
theorem Rt.jmX {x : Option Res} {f : List Value → World → Option Res} {Q : Res → Prop} (h : Rt x fun r => r.ex = .norm ∧ Rt (f r.vals r.w) Q ∨ r.ex ≠ .norm ∧ Q r) : Rt (Big.jm x f) Q := by
  obtain ⟨⟨ex, vs, w⟩, rfl, ⟨h1, h2⟩ | ⟨h1, h2⟩⟩ := h
  · cases h1; exact h2
  · cases ex
    · exact absurd rfl h1
    · exact ⟨_, rfl, h2⟩
    · exact ⟨_, rfl, h2⟩
/-- Elements that stay readable whatever of S turns. -/
def El.stb (E : El γ) (S : Nat → Prop) : El γ where
  sz := E.sz
  rd w vs x := Stb S (fun w => E.rd w vs x) w
  kp := fun hk h => h.kp hk
  one := fun h => E.one h.out
theorem Rows.stb : ∀ {xs : List γ} {vs : List Value}, Rows (E.stb S) w vs xs → Stb S (fun w => Rows E w vs xs) w
  | [], vs, h, w', _ => h
  | x :: xs, vs, h, w', hg => by
    obtain ⟨a, b, rfl, h1, h2, h3⟩ := h
    exact ⟨a, b, rfl, h1, h2 w' hg, Rows.stb h3 w' hg⟩
theorem SlE.unstb (h : SlE (E.stb S) w A l xs) : SlE E w A l xs :=
  ⟨h.1, h.2.imp id fun ⟨a, vs, e, hr, hc⟩ => ⟨a, vs, e, hr.stb.out, hc⟩⟩
theorem Ev.unstb (h : Ev (E.stb S) w A l c xs) : Ev E w A l c xs := ⟨h.sl.unstb, h.nil, h.cap, h.max⟩
/-- append(own, other..): another row of the call's own, or what came in. -/
theorem Rt.appT {sz : Nat} (hz : E.sz = sz) (hT : SlTE P t e sz i z) {ty : TypeId} (ho : OwnE E e w base v xs) {B : Option Addr} {m d : Nat} (hs : Ev (E.stb (On v)) w B m d ys) (hn : xs.length + m ≤ 2 ^ 36) (hb : base ≤ w.heap.size)
    {f : Value → World → Option α} (h : ∀ A c w', OwnE E e w' base (.slice A (xs.length + m) c) (xs ++ ys) → Gx (On v) w w' → Rt (f (.slice A (xs.length + m) c) w') Q) :
    Rt (rn P (Builtin.append_ #[t, t] ty #[v, .slice B m d]) w f) Q := by
  rcases hs.sl.2 with hnil | ⟨a, vs, rfl, hr, hc⟩
  · subst hnil
    have hm : m = 0 := hs.len.symm
    subst hm
    exact Rt.appE (ys := []) (m := 0) (news := []) hz hT ho rfl hs.nil (fun a _ j u hj => by simp at hj) (by simp) (fun w' _ => (rfl : ([] : List Value) = [])) hn hb fun A c w' o _ g _ => h A c w' o ((Gx.of_grown g).wide fun _ _ e => e)
  · exact Rt.appE (ys := ys) (m := m) (news := vs) hz hT ho hs.len hs.nil (fun a' ha j u hj => by injection ha with ha; subst ha; exact hc j u hj) hr.stb.out.ones hr.stb hn hb fun A c w' o _ g _ => h A c w' o ((Gx.of_grown g).wide fun _ _ e => e)
/-- A literal: it stays readable whatever of older blocks turns. -/
theorem Rt.litS {k : IntKind} (hC : ConvB P t) (xs : List Int) (n : Nat) {l : List Value} (hl : l = xs.map (Value.int k)) (hn : xs.length = n) (hm : n ≤ maxLen) (hr : ∀ x ∈ xs, (Lit.int k x).wf = true) {f : Value → World → Option α}
    (h : ∀ A w', (∀ S : Nat → Prop, (∀ j, S j → j < w.heap.size) → Stb S (fun w => Bv k w A n n xs) w') → Kp w w' → Rt (f (.slice A n n) w') Q) : Rt (Big.al w l.toArray e fun w1 => rn P (Go.convert t t (.slice (some ⟨w.heap.size, 0, none⟩) n n)) w1 f) Q := by
  refine Rt.alo xs n hl hn hm fun w1 o1 k1 => ?_
  exact Rt.conv hC (o1.bv hr) k1 (Nat.le_refl _) fun w' b' k' => h _ w' (fun S hS w2 g => ⟨b'.sl.gx g (fun a ha hs => by injection ha with ha; subst ha; exact absurd (hS _ hs) (Nat.lt_irrefl _)), b'.nil, b'.cap, b'.max, b'.rng⟩) k'
theorem Rt.of_eq {x y : Option α} (e : x = y) (h : Rt x Q) : Rt y Q := e ▸ h
/-! ### A local block, at any place -/
theorem Lc.dr' {b : Nat} {l : List Value} (h : Lc w b l) : Lc w.drew b l := h.kp (Kp.rfl' w).dr
theorem Rt.ldn {b j : Nat} {l : List Value} {x : Value} {f : Value → Option α} (hl : Lc w b l) (hx : l[j]? = some x) (h : Rt (f x) Q) : Rt (opt (w.cell? (Addr.add ⟨b, 0, none⟩ j)) f) Q :=
  Rt.ol (by rw [Addr.add_lit, Nat.zero_add, hl.ld]; exact hx) h
theorem Rt.ldb {b j : Nat} {l : List Value} {x : Value} {f : Value → Option α} (hl : Lc w b l) (hx : l[j]? = some x) (h : Rt (f x) Q) : Rt (opt (w.cell? ⟨b, j, none⟩) f) Q :=
  Rt.ol (by rw [hl.ld]; exact hx) h
theorem Rt.stn {b j : Nat} {l : List Value} {x : Value} {f : World → Option α} (hl : Lc w b l) (hj : j < l.length) (h : ∀ w1, Lc w1 b (l.set j x) → Gx (fun k => k = b) w w1 → Rt (f w1) Q) : Rt (stC w (Addr.add ⟨b, 0, none⟩ j) x f) Q := by
  obtain ⟨h1, h2, h3⟩ := hl.st j hj x
  rw [Addr.add_lit, Nat.zero_add, h3]; exact h _ h1 h2
theorem Rt.stb {b j : Nat} {l : List Value} {x : Value} {f : World → Option α} (hl : Lc w b l) (hj : j < l.length) (h : ∀ w1, Lc w1 b (l.set j x) → Gx (fun k => k = b) w w1 → Rt (f w1) Q) : Rt (stC w ⟨b, j, none⟩ x f) Q := by
  obtain ⟨h1, h2, h3⟩ := hl.st j hj x
  rw [h3]; exact h _ h1 h2
theorem Rt.ixRb {b n : Nat} {i : Int} {f : Addr → Option α} (h0 : 0 ≤ i) (h1 : i < n) (h : Rt (f ⟨b, i.toNat, none⟩) Q) : Rt (ixR ⟨b, 0, none⟩ n i 1 f) Q := by
  rw [ixR_eq]
  unfold ixR0
  rw [if_pos ⟨h0, h1⟩, Addr.add_lit, Nat.zero_add, Nat.mul_one]; exact h
theorem SlE.gxx {S : Nat → Prop} (h : SlE E w A l xs) (hg : Gx S w w') (hn : ∀ a, A = some a → ¬ S a.block) (he : ∀ us x, E.rd w us x → E.rd w' us x) : SlE E w' A l xs := by
  refine ⟨h.1, h.2.imp id ?_⟩
  rintro ⟨a, vs, rfl, hr, hc⟩
  exact ⟨a, vs, rfl, hr.map rfl he, fun j v hj => hg.cell (hc j v hj) (by rw [add_block]; exact hn a rfl)⟩
end
end Go.Proofs.Ytdcdgmiojlldaaa.Big
