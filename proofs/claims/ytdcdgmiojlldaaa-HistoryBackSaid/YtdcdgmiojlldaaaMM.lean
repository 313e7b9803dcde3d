/- Maps of numbers to true: sets of numbers. -/
import Derived.Test.YtdcdgmiojlldaaaM8
import Derived.Maps.OwnSet
namespace Go.Proofs.Ytdcdgmiojlldaaa.Big
open Go Go.RowKit Go.Maps Go.WideShapes
set_option linter.unusedVariables false
set_option linter.unusedSimpArgs false
section
variable {α : Type} {Q : α → Prop} {w : World} {t : TypeId}
theorem Lc.ld5 {b : Nat} {a x y z u v : Value} {l : List Value} (h : Lc w b (x :: y :: z :: u :: v :: a :: l)) : w.cell? (Addr.add ⟨b, 0, none⟩ 5) = some a := by rw [Addr.add_lit, h.ld]; rfl
theorem Rt.ld5 {b : Nat} {a x y z u v : Value} {l : List Value} {f : Value → Option α} (hl : Lc w b (x :: y :: z :: u :: v :: a :: l)) (h : Rt (f a) Q) : Rt (opt (w.cell? (Addr.add ⟨b, 0, none⟩ 5)) f) Q := Rt.ol hl.ld5 h
theorem Rt.st4 {b : Nat} {x y z a c v : Value} {l : List Value} {f : World → Option α} (hl : Lc w b (a :: y :: z :: c :: x :: l)) (h : ∀ w1, Lc w1 b (a :: y :: z :: c :: v :: l) → Gx (fun k => k = b) w w1 → Rt (f w1) Q) : Rt (stC w (Addr.add ⟨b, 0, none⟩ 4) v f) Q := by
  obtain ⟨h1, h2, h3⟩ := hl.st 4 (by simp) v
  rw [Addr.add_lit, Nat.zero_add, h3]; exact h _ h1 h2
theorem Rt.st5 {b : Nat} {x y z a c d v : Value} {l : List Value} {f : World → Option α} (hl : Lc w b (a :: y :: z :: c :: d :: x :: l)) (h : ∀ w1, Lc w1 b (a :: y :: z :: c :: d :: v :: l) → Gx (fun k => k = b) w w1 → Rt (f w1) Q) : Rt (stC w (Addr.add ⟨b, 0, none⟩ 5) v f) Q := by
  obtain ⟨h1, h2, h3⟩ := hl.st 5 (by simp) v
  rw [Addr.add_lit, Nat.zero_add, h3]; exact h _ h1 h2
theorem Rt.sto5 {b : Nat} {x y z u v a c d e g : Value} {f : World → Option α} (hl : Lc w b [x, y, z, u, v]) (h : ∀ w1, Lc w1 b [a, c, d, e, g] → Gx (fun k => k = b) w w1 → Rt (f w1) Q) :
    Rt (stC w ⟨b, 0, none⟩ a fun w1 => stC w1 (Addr.add ⟨b, 0, none⟩ 1) c fun w2 => stC w2 (Addr.add ⟨b, 0, none⟩ 2) d fun w3 => stC w3 (Addr.add ⟨b, 0, none⟩ 3) e fun w4 => stC w4 (Addr.add ⟨b, 0, none⟩ 4) g f) Q :=
  Rt.st0 hl fun w1 l1 g1 => Rt.st1 l1 fun w2 l2 g2 => Rt.st2 l2 fun w3 l3 g3 => Rt.st3 l3 fun w4 l4 g4 => Rt.st4 l4 fun w5 l5 g5 => h w5 l5 ((((g1.tr g2).tr g3).tr g4).tr g5)
theorem Rt.sto6 {b : Nat} {x y z u v q a c d e g i : Value} {f : World → Option α} (hl : Lc w b [x, y, z, u, v, q]) (h : ∀ w1, Lc w1 b [a, c, d, e, g, i] → Gx (fun k => k = b) w w1 → Rt (f w1) Q) :
    Rt (stC w ⟨b, 0, none⟩ a fun w1 => stC w1 (Addr.add ⟨b, 0, none⟩ 1) c fun w2 => stC w2 (Addr.add ⟨b, 0, none⟩ 2) d fun w3 => stC w3 (Addr.add ⟨b, 0, none⟩ 3) e fun w4 => stC w4 (Addr.add ⟨b, 0, none⟩ 4) g fun w5 => stC w5 (Addr.add ⟨b, 0, none⟩ 5) i f) Q :=
  Rt.st0 hl fun w1 l1 g1 => Rt.st1 l1 fun w2 l2 g2 => Rt.st2 l2 fun w3 l3 g3 => Rt.st3 l3 fun w4 l4 g4 => Rt.st4 l4 fun w5 l5 g5 => Rt.st5 l5 fun w6 l6 g6 => h w6 l6 (((((g1.tr g2).tr g3).tr g4).tr g5).tr g6)
theorem Rt.al5 {x y z u v a c d e g : Value} {f : World → Option α} (h : ∀ w1, Lc w1 w.heap.size [a, c, d, e, g] → Kp w w1 → w.heap.size < w1.heap.size → Rt (f w1) Q) :
    Rt (Big.al w #[x, y, z, u, v] t fun w0 => stC w0 ⟨w.heap.size, 0, none⟩ a fun w1 => stC w1 (Addr.add ⟨w.heap.size, 0, none⟩ 1) c fun w2 => stC w2 (Addr.add ⟨w.heap.size, 0, none⟩ 2) d fun w3 => stC w3 (Addr.add ⟨w.heap.size, 0, none⟩ 3) e fun w4 => stC w4 (Addr.add ⟨w.heap.size, 0, none⟩ 4) g f) Q :=
  Rt.al fun w1 l1 k1 s1 => Rt.sto5 l1 fun w2 l2 g2 => h w2 l2 (k1.tx g2 fun j hj => by omega) (by have := g2.size; omega)
theorem Rt.al6 {x y z u v q a c d e g i : Value} {f : World → Option α} (h : ∀ w1, Lc w1 w.heap.size [a, c, d, e, g, i] → Kp w w1 → w.heap.size < w1.heap.size → Rt (f w1) Q) :
    Rt (Big.al w #[x, y, z, u, v, q] t fun w0 => stC w0 ⟨w.heap.size, 0, none⟩ a fun w1 => stC w1 (Addr.add ⟨w.heap.size, 0, none⟩ 1) c fun w2 => stC w2 (Addr.add ⟨w.heap.size, 0, none⟩ 2) d fun w3 => stC w3 (Addr.add ⟨w.heap.size, 0, none⟩ 3) e fun w4 => stC w4 (Addr.add ⟨w.heap.size, 0, none⟩ 4) g fun w5 => stC w5 (Addr.add ⟨w.heap.size, 0, none⟩ 5) i f) Q :=
  Rt.al fun w1 l1 k1 s1 => Rt.sto6 l1 fun w2 l2 g2 => h w2 l2 (k1.tx g2 fun j hj => by omega) (by have := g2.size; omega)
end
def Mp (P : Program) (k e : TypeId) (w : World) (b : Nat) (ks : List Int) : Prop :=
  ∃ n D, w.ownsMap (H := Unit) P k (plainElem P e) b n D ∧ n ≤ ks.length ∧ ∀ x, (Lit.int .i64 x).wf = true → D.atKey (.int .i64 x) (.lit (.bool false)) = .lit (.bool (decide (x ∈ ks)))
section
variable {α : Type} {Q : α → Prop} {P : Program} {t k e : TypeId} {w w' : World} {b : Nat} {ks : List Int} {S : Nat → Prop} {x : Int}
theorem Mp.new (w : World) : Mp P k e (w.alloc (.map #[] 0)) w.heap.size [] :=
  ⟨0, _, World.ownsMap_made w P k _, Nat.zero_le _, fun x _ => rfl⟩
theorem Mp.lt (h : Mp P k e w b ks) : b < w.heap.size := by obtain ⟨n, D, h, _⟩ := h; exact h.lt
theorem Mp.gx (h : Mp P k e w b ks) (hg : Gx S w w') (hn : ¬ S b) : Mp P k e w' b ks := by
  obtain ⟨n, D, ⟨es, clock, hb, h2⟩, h3⟩ := h
  exact ⟨n, D, ⟨es, clock, (hg.block b (Array.getElem?_eq_some_iff.1 hb).1 hn).trans hb, h2⟩, h3⟩
theorem Mp.kp (h : Mp P k e w b ks) (hk : Kp w w') : Mp P k e w' b ks := h.gx (S := fun _ => False) hk.gx fun h => h
theorem plain_bool (he : P.underlying e = some .bool) {v : Value} {z : DataW Unit × List MemPlace} (h : plainElem P e v = some z) : ∃ c, v = .bool c ∧ z.1 = .lit (.bool c) := by
  unfold plainElem at h
  rw [he] at h
  cases v <;> simp at h
  subst h
  exact ⟨_, rfl, rfl⟩
theorem Rt.look (hk : P.underlying k = some (.int .i64)) (he : P.underlying e = some .bool) (ht : P.underlying t = some (.map k e)) (hz : ∀ w, (zeroValue e).run P w = .ok (.bool false) w) (h : Mp P k e w b ks) (hx : (Lit.int .i64 x).wf = true)
    {f : Value → World → Option α} (hf : Rt (f (.bool (decide (x ∈ ks))) w) Q) : Rt (rn P (Instr.lookup t (.map (some b)) (.int .i64 x) false) w f) Q := by
  obtain ⟨n, D, h1, h2, h3⟩ := h
  obtain ⟨v, ps, hrun, hv⟩ := h1.lookup (int_keyed hk) ht (hz w) (plainElem_bool he false) (keyOf_int_mk hk hx)
  obtain ⟨c, rfl, hc⟩ := plain_bool he hv
  rw [h3 x hx] at hc
  injection hc with hc
  injection hc with hc
  subst hc
  rw [show rn P (Instr.lookup t (.map (some b)) (.int .i64 x) false) w f = f (.bool (decide (x ∈ ks))) w by simp only [rn, hrun]]
  exact hf
theorem Rt.mput (hk : P.underlying k = some (.int .i64)) (he : P.underlying e = some .bool) (ht : P.underlying t = some (.map k e)) (h : Mp P k e w b ks) (hx : (Lit.int .i64 x).wf = true) (hn : ks.length < maxLen)
    {f : Value → World → Option α} {u : Value} (hf : ∀ w', Mp P k e w' b (x :: ks) → Gx (fun k => k = b) w w' → Rt (f u w') Q) : Rt (rn P (do Instr.mapUpdate t (.map (some b)) (.int .i64 x) (.bool true); pure u) w f) Q := by
  obtain ⟨n, D, h1, h2, h3⟩ := h
  obtain ⟨w', hrun, o, g⟩ := h1.update (int_keyed hk) ht (by omega) (keyOf_int_mk hk hx) (plainElem_bool he true)
  have e1 : rn P (do Instr.mapUpdate t (.map (some b)) (.int .i64 x) (.bool true); pure u) w f = f u w' := by
    simp [rn, hrun]
  rw [e1]
  refine hf w' ⟨n + 1, _, o, by simp; omega, fun y hy => ?_⟩ ((Gx.of_grown g).wide fun k _ e => by injection e with e; exact e.symm)
  by_cases hxy : y = x
  · subst hxy
    rw [atKey_put_same h1.isMap ((int_keyed hk).key (keyOf_int_mk hk hx))]
    simp
  · rw [atKey_put_other (fun e => hxy (by injection e)), h3 y hy]
    simp [hxy]
end
end Go.Proofs.Ytdcdgmiojlldaaa.Big
