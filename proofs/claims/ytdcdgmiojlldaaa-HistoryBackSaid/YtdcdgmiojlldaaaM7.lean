/- Rows of structs of the call's own that stay while other blocks of the call's own are written. -/
import Derived.Test.YtdcdgmiojlldaaaM6
namespace Go.Proofs.Ytdcdgmiojlldaaa.Big
open Go Go.RowKit
set_option linter.unusedVariables false
set_option linter.unusedSimpArgs false
section
variable {α γ : Type} {E : El γ} {Q : α → Prop} {P : Program} {t e : TypeId} {w w' w0 : World} {base : Nat} {v : Value} {xs ys : List γ} {S S' : Nat → Prop} {i : TypeInfo} {z : Value}
def OwnX (S : Nat → Prop) (E : El γ) (e : TypeId) (w : World) (base : Nat) (v : Value) (xs : List γ) : Prop :=
  ∃ vs, w.ownsRow base e E.sz v xs.length vs ∧ Stb (fun k => S k ∨ On v k) (fun w => Rows E w vs xs) w
theorem OwnX.ownE (h : OwnX S E e w base v xs) : OwnE E e w base v xs := by
  obtain ⟨vs, h1, h2⟩ := h
  exact ⟨vs, h1, h2.less fun k _ hk => .inr hk⟩
theorem OwnX.nil (S : Nat → Prop) (w : World) (base : Nat) : OwnX S E e w base (.slice none 0 0) [] := ⟨[], World.ownsRow_nil w base e E.sz, fun _ _ => (rfl : ([] : List Value) = [])⟩
theorem OwnX.lt (h : OwnX S E e w base v xs) : ∀ b, v.ownBlock = some b → base ≤ b ∧ b < w.heap.size := h.ownE.lt
theorem OwnX.gx (h : OwnX S E e w base v xs) (hg : Gx S' w w') (hS : ∀ k, k < w.heap.size → S' k → S k) (hn : ∀ k, S' k → ¬ On v k) : OwnX S E e w' base v xs := by
  obtain ⟨vs, h1, h2⟩ := h
  refine ⟨vs, ⟨h1.1, h1.2.imp id fun ⟨g, cap, cur, e1, e2, e3, e4⟩ => ⟨g, cap, cur, e1, e2, by rw [hg.block g (Array.getElem?_eq_some_iff.1 e3).1 (fun hs => hn g hs (by rw [e1]; rfl))]; exact e3, e4⟩⟩, ?_⟩
  exact h2.on (hg.wide fun k hk hs => .inl (hS k hk hs))
theorem OwnX.kp (h : OwnX S E e w base v xs) (hk : Kp w w') : OwnX S E e w' base v xs := h.gx (S' := fun _ => False) hk.gx (fun _ _ h => h.elim) fun _ h => h.elim
theorem OwnX.mono {base' : Nat} (h : OwnX S E e w base v xs) (hb : base' ≤ base) : OwnX S E e w base' v xs := by
  obtain ⟨vs, h1, h2⟩ := h
  exact ⟨vs, ⟨h1.1, h1.2.imp id fun ⟨g, cap, cur, e1, e2, e3⟩ => ⟨g, cap, cur, e1, by omega, e3⟩⟩, h2⟩
theorem OwnX.less (h : OwnX S E e w base v xs) (hs : ∀ k, S' k → S k) : OwnX S' E e w base v xs := by
  obtain ⟨vs, h1, h2⟩ := h
  exact ⟨vs, h1, h2.less fun k _ hk => hk.imp (hs k) id⟩
/-- append(own, x), the one x in a block made just now. -/
theorem Rt.app1L {sz : Nat} (hz : E.sz = sz) (hT : SlTE P t e sz i z) {ty : TypeId} (ho : OwnX S E e w base v xs) {us : List Value} {x : γ} {b : Nat} (hl : Lc w b us) (hul : us.length = sz) (hx : Stb (fun k => S k ∨ On v k) (fun w => E.rd w us x) w) (hn : xs.length + 1 ≤ 2 ^ 36) (hb : base ≤ w.heap.size)
    {f : Value → World → Option α} (h : ∀ A c w', OwnX S E e w' base (.slice A (xs.length + 1) c) (xs ++ [x]) → Gx (On v) w w' → w.heap.size ≤ w'.heap.size → Rt (f (.slice A (xs.length + 1) c) w') Q) :
    Rt (rn P (Builtin.append_ #[t, t] ty #[v, .slice (some ⟨b, 0, none⟩) 1 1]) w f) Q := by
  subst hz
  obtain ⟨vs, ho, hs⟩ := ho
  have hr : Stb (fun k => S k ∨ On v k) (fun w => Rows E w us [x]) w := fun w' hg => Rows.one (hx w' hg) hul
  have hbytes : (xs.length + 1) * i.bytes ≤ 140737488355328 := Nat.le_trans (Nat.mul_le_mul hn hT.bytes) (by decide)
  obtain ⟨v', w', h1, h2, h3, _, h5⟩ := run_append_own_at (P := P) w base t ty e i z E.sz i.bytes hT.under hT.info hT.zero hT.size rfl hT.cells hT.pos v _ _ ho ⟨b, 0, none⟩ 1 1 us (by rw [hul, Nat.one_mul])
    (fun j u hj => by rw [Addr.add_lit, Nat.zero_add, hl.ld]; exact hj) hr.out.ones (by simp only [maxLen]; omega) hbytes hb
  have e1 : rn P (Builtin.append_ #[t, t] ty #[v, .slice (some ⟨b, 0, none⟩) 1 1]) w f = f v' w' := by simp only [rn, h1]
  rw [e1]
  have hO : OwnX S E e w' base v' (xs ++ [x]) := by
    refine ⟨vs ++ us, by rw [List.length_append]; exact h2, fun w2 hw2 => ?_⟩
    have hg : Gx (fun k => S k ∨ On v k) w w' := (Gx.of_grown h3).wide fun k _ e => .inr e
    have hg2 : Gx (fun k => S k ∨ On v k) w w2 := hg.tr' hw2 fun k hk e => by
      rcases e with e | e
      · exact .inl e
      · rcases h5 with h5 | h5
        · have e : v'.ownBlock = some k := e
          rw [h5] at e; exact .inr e
        · have e : v'.ownBlock = some k := e
          rw [h5] at e; injection e with e; omega
    exact (hs _ hg2).app (hr _ hg2)
  obtain ⟨A, c, rfl, _⟩ := hO.ownE.slice
  have hl : (xs ++ [x]).length = xs.length + 1 := by rw [List.length_append]; rfl
  rw [hl] at hO ⊢
  exact h A c w' hO (Gx.of_grown h3) h3.size
end
end Go.Proofs.Ytdcdgmiojlldaaa.Big
