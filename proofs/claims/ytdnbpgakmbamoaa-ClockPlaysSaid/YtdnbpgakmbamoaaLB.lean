/- Clock: two caches of the program's and one of the definition's, side by side. -/
import Derived.Test.YtdnbpgakmbamoaaLA
namespace Go.Proofs.Ytdnbpgakmbamoaa.Ck
open Go Big Go.RowKit Go.IntWalk
set_option linter.unusedVariables false
set_option linter.unusedSimpArgs false
structure Tri (w0 w : World) (cb ob r : Nat) (s so t : Ca) (S So T F : Nat → Prop) : Prop where
  c : Cs w w0.heap.size cb S s
  o : Cs w w0.heap.size ob So so
  r : Rc w T r t
  hs : ∀ j, S j → w0.heap.size ≤ j ∧ j < w.heap.size
  ho : ∀ j, So j → w0.heap.size ≤ j ∧ j < w.heap.size
  ht : ∀ j, T j → w0.heap.size ≤ j ∧ j < w.heap.size
  d1 : ∀ j, S j → ¬ So j
  d2 : ∀ j, S j → ¬ T j
  d3 : ∀ j, So j → ¬ T j
  fr : ∀ j, F j → j < w.heap.size ∧ ¬ S j ∧ ¬ So j ∧ ¬ T j
  kp : Kp w0 w
section
variable {α : Type} {Q : α → Prop} {n m cb ob r N M : Nat} {w0 w w' w1 : World} {s so t s' so' t' : Ca} {S So T S' F G : Nat → Prop} {B : Option Addr} {d : Nat} {f p : Int} {bs : List Int}
theorem Tri.less (h : Tri w0 w cb ob r s so t S So T F) (hG : ∀ j, G j → F j) : Tri w0 w cb ob r s so t S So T G :=
  ⟨h.c, h.o, h.r, h.hs, h.ho, h.ht, h.d1, h.d2, h.d3, fun j hj => h.fr j (hG j hj), h.kp⟩
/-- What is new is frozen. -/
theorem Tri.al (h : Tri w0 w cb ob r s so t S So T F) (k : Kp w w') : Tri w0 w' cb ob r s so t S So T fun j => F j ∨ w.heap.size ≤ j ∧ j < w'.heap.size := by
  have hz := k.size
  refine ⟨h.c.kp k, h.o.kp k, h.r.kp k, fun j hj => by have := h.hs j hj; omega, fun j hj => by have := h.ho j hj; omega, fun j hj => by have := h.ht j hj; omega, h.d1, h.d2, h.d3, fun j hj => ?_, h.kp.tr k⟩
  rcases hj with hj | hj
  · obtain ⟨a, b⟩ := h.fr j hj; exact ⟨by omega, b⟩
  · exact ⟨hj.2, fun e => by have := h.hs j e; omega, fun e => by have := h.ho j e; omega, fun e => by have := h.ht j e; omega⟩
theorem Tri.kp' (h : Tri w0 w cb ob r s so t S So T F) (k : Kp w w') : Tri w0 w' cb ob r s so t S So T F := (h.al k).less fun j hj => .inl hj
/-- A frozen block of the call's own is written. -/
theorem Tri.loc (h : Tri w0 w cb ob r s so t S So T F) (g : Gx G w w') (hG : ∀ j, G j → F j ∧ w0.heap.size ≤ j) : Tri w0 w' cb ob r s so t S So T F := by
  have hz := g.size
  exact ⟨h.c.gx g fun j hj hg => (h.fr j (hG j hg).1).2.1 hj, h.o.gx g fun j hj hg => (h.fr j (hG j hg).1).2.2.1 hj, h.r.gx g fun j hg hj => (h.fr j (hG j hg).1).2.2.2 hj, fun j hj => by have := h.hs j hj; omega, fun j hj => by have := h.ho j hj; omega, fun j hj => by have := h.ht j hj; omega, h.d1, h.d2, h.d3, fun j hj => by obtain ⟨a, b⟩ := h.fr j hj; exact ⟨by omega, b⟩, h.kp.tx g fun j hj => (hG j hj).2⟩
theorem Tri.stC (h : Tri w0 w cb ob r s so t S So T F) (h1 : Cs w' w0.heap.size cb S' s') (g : Gx S w w') (hs : ∀ j, S' j → (S j ∨ w.heap.size ≤ j) ∧ w0.heap.size ≤ j ∧ j < w'.heap.size) : Tri w0 w' cb ob r s' so t S' So T F := by
  have hz := g.size
  refine ⟨h1, h.o.gx g fun j hj hg => h.d1 j hg hj, h.r.gx g fun j hg hj => h.d2 j hg hj, fun j hj => (hs j hj).2, fun j hj => by have := h.ho j hj; omega, fun j hj => by have := h.ht j hj; omega, fun j hj hj' => ?_, fun j hj hj' => ?_, h.d3, fun j hj => ?_, h.kp.tx g fun j hj => (h.hs j hj).1⟩
  · rcases (hs j hj).1 with e | e
    · exact h.d1 j e hj'
    · have := h.ho j hj'; omega
  · rcases (hs j hj).1 with e | e
    · exact h.d2 j e hj'
    · have := h.ht j hj'; omega
  · obtain ⟨a, b, c⟩ := h.fr j hj
    exact ⟨by omega, fun e => (hs j e).1.elim b fun e => by omega, c⟩
theorem Tri.stO (h : Tri w0 w cb ob r s so t S So T F) (h1 : Cs w' w0.heap.size ob S' so') (g : Gx So w w') (hs : ∀ j, S' j → (So j ∨ w.heap.size ≤ j) ∧ w0.heap.size ≤ j ∧ j < w'.heap.size) : Tri w0 w' cb ob r s so' t S S' T F := by
  have hz := g.size
  refine ⟨h.c.gx g fun j hj hg => h.d1 j hj hg, h1, h.r.gx g fun j hg hj => h.d3 j hg hj, fun j hj => by have := h.hs j hj; omega, fun j hj => (hs j hj).2, fun j hj => by have := h.ht j hj; omega, fun j hj hj' => ?_, h.d2, fun j hj hj' => ?_, fun j hj => ?_, h.kp.tx g fun j hj => (h.ho j hj).1⟩
  · rcases (hs j hj').1 with e | e
    · exact h.d1 j hj e
    · have := h.hs j hj; omega
  · rcases (hs j hj).1 with e | e
    · exact h.d3 j e hj'
    · have := h.ht j hj'; omega
  · obtain ⟨a, b, c, d⟩ := h.fr j hj
    exact ⟨by omega, b, fun e => (hs j e).1.elim c fun e => by omega, d⟩
theorem Tri.stR (h : Tri w0 w cb ob r s so t S So T F) (h1 : Rc w' S' r t') (g : Gx T w w') (hs : ∀ j, S' j → T j ∨ w.heap.size ≤ j) : Tri w0 w' cb ob r s so t' S So S' F := by
  have hz := g.size
  have hlt : ∀ j, S' j → j < w'.heap.size := by obtain ⟨A, c, xs, q⟩ := h1; exact q.lt
  refine ⟨h.c.gx g fun j hj hg => h.d2 j hj hg, h.o.gx g fun j hj hg => h.d3 j hj hg, h1, fun j hj => by have := h.hs j hj; omega, fun j hj => by have := h.ho j hj; omega, fun j hj => ⟨(hs j hj).elim (fun e => (h.ht j e).1) fun e => by have := h.kp.size; omega, hlt j hj⟩, h.d1, fun j hj hj' => ?_, fun j hj hj' => ?_, fun j hj => ?_, h.kp.tx g fun j hj => (h.ht j hj).1⟩
  · rcases hs j hj' with e | e
    · exact h.d2 j hj e
    · have := h.hs j hj; omega
  · rcases hs j hj' with e | e
    · exact h.d3 j hj e
    · have := h.ho j hj; omega
  · obtain ⟨a, b, c, d⟩ := h.fr j hj
    exact ⟨by omega, b, c, fun e => (hs j e).elim d fun e => by omega⟩
theorem Tri.gS (h : Tri w0 w cb ob r s so t S So T F) (g : Gx S w w') : Gx (fun j => ¬ F j) w w' := g.wide fun j _ hj hf => (h.fr j hf).2.1 hj
theorem Tri.gT (h : Tri w0 w cb ob r s so t S So T F) (g : Gx T w w') : Gx (fun j => ¬ F j) w w' := g.wide fun j _ hj hf => (h.fr j hf).2.2.2 hj
/-! ### The calls -/
theorem Tri.get (h : Tri w0 w cb ob r s so t S So T F) (ho : Ok N s) (hn : 2 ^ 60 < n) {H : List Value → World → Option α}
    (hf : ∀ B m d w1, Bv .u8 w1 B m d ((getB s f p).getD []) → Own .u8 5 w1 w.heap.size (.slice B m d) ((getB s f p).getD []) → Tri w0 w1 cb ob r (getS s f p) so t S So T F → Gx (fun j => ¬ F j) w w1 → Rt (H [.slice B m d, .bool (getB s f p).isSome] w1) Q) : Rt (Big.cl (clock_Cache_Get n [pt cb, .int .i64 f, .int .i64 p] w) H) Q := by
  refine Rt.cGet (Get_spec (f := f) (p := p) h.c ho hn) fun B m d w1 b1 on1 o1 g1 c1 => ?_
  have hz := g1.size
  exact hf B m d w1 b1 o1 (h.stC c1 g1 fun j hj => ⟨.inl hj, (h.hs j hj).1, by have := (h.hs j hj).2; omega⟩) (h.gS g1)
theorem Tri.rel (h : Tri w0 w cb ob r s so t S So T F) (hn : 2 ^ 60 < n) (ho : Ok N s) {H : List Value → World → Option α} (hf : ∀ w1, Tri w0 w1 cb ob r (relS s f p).1 so t S So T F → Gx (fun j => ¬ F j) w w1 → Rt (H [.bool (relS s f p).2] w1) Q) : Rt (Big.cl (clock_Cache_Release n [pt cb, .int .i64 f, .int .i64 p] w) H) Q := by
  refine Rt.cSt (Rel_spec (f := f) (p := p) h.c ho hn) fun w1 g1 c1 => ?_
  have hz := g1.size
  exact hf w1 (h.stC c1 g1 fun j hj => ⟨.inl hj, (h.hs j hj).1, by have := (h.hs j hj).2; omega⟩) (h.gS g1)
theorem Tri.drop (h : Tri w0 w cb ob r s so t S So T F) (hn : 2 ^ 60 < n) (ho : Ok N s) {H : List Value → World → Option α} (hf : ∀ w1, Tri w0 w1 cb ob r (dropS n s f).1 so t S So T F → Gx (fun j => ¬ F j) w w1 → Rt (H [.int .i64 (dropS n s f).2] w1) Q) : Rt (Big.cl (clock_Cache_Drop n [pt cb, .int .i64 f] w) H) Q := by
  refine Rt.cSt (Drop_spec (f := f) h.c ho hn) fun w1 g1 c1 => ?_
  have hz := g1.size
  exact hf w1 (h.stC c1 g1 fun j hj => ⟨.inl hj, (h.hs j hj).1, by have := (h.hs j hj).2; omega⟩) (h.gS g1)
theorem Tri.put (h : Tri w0 w cb ob r s so t S So T F) (ho : Ok N s) (hN : N < 2 ^ 20) (hB : Stb S (fun w => Bv .u8 w B m d bs) w) (hm : m ≤ 2 ^ 20) (hn : 2 ^ 60 < n) {H : List Value → World → Option α}
    (hf : ∀ w1 S', Tri w0 w1 cb ob r (putS n s f p bs).1 so t S' So T F → Gx (fun j => ¬ F j) w w1 → Rt (H [.bool (putS n s f p bs).2] w1) Q) : Rt (Big.cl (clock_Cache_Put n [pt cb, .int .i64 f, .int .i64 p, .slice B m d] w) H) Q := by
  refine Rt.cPut (f := f) (p := p) h.c ho hN hB hm h.kp.size hn fun w1 S' g1 hs c1 => ?_
  exact hf w1 S' (h.stC c1 g1 hs) (h.gS g1)
theorem Tri.putO (h : Tri w0 w cb ob r s so t S So T F) (ho : Ok N so) (hN : N < 2 ^ 20) (hn : 2 ^ 60 < n) {H : List Value → World → Option α}
    (hf : ∀ w1 So', Tri w0 w1 cb ob r s (putS n so f p [1]).1 t S So' T F → Gx (fun j => ¬ F j) w w1 → Rt (H [.bool (putS n so f p [1]).2] w1) Q) : Rt (Big.al w #[.int .u8 1] 5 fun w1 => Big.cl (clock_Cache_Put n [pt ob, .int .i64 f, .int .i64 p, .slice (some ⟨w.heap.size, 0, none⟩) 1 1] w1) H) Q := by
  refine Rt.cLit (f := f) (p := p) h.o (fun j hj => (h.ho j hj).2) ho hN h.kp.size hn fun w1 S' g1 hs c1 => ?_
  exact hf w1 S' (h.stO c1 g1 hs) (g1.wide fun j _ hj hf => (h.fr j hf).2.2.1 hj)
theorem Tri.rget (h : Tri w0 w cb ob r s so t S So T F) (ho : Ok N t) (hn : 2 ^ 60 < n) {H : List Value → World → Option α}
    (hf : ∀ B m d w1, Own .u8 5 w1 w.heap.size (.slice B m d) ((getB t f p).getD []) → Tri w0 w1 cb ob r s so (getS t f p) S So T F → Gx (fun j => ¬ F j) w w1 → Rt (H [.slice B m d, .bool (getB t f p).isSome] w1) Q) : Rt (Big.cl (butteryref6_Cache_Get n [pt r, .int .i64 f, .int .i64 p] w) H) Q := by
  obtain ⟨_, e, B, m, d, w1, rfl, o1, c1, g1⟩ := RGet_spec (f := f) (p := p) h.r ho hn
  exact Rt.cl e (hf B m d w1 o1 (h.stR c1 g1 fun j hj => .inl hj) (h.gT g1))
theorem Tri.rrel (h : Tri w0 w cb ob r s so t S So T F) (ho : Ok N t) (hn : 2 ^ 60 < n) {H : List Value → World → Option α}
    (hf : ∀ w1, Tri w0 w1 cb ob r s so (relS t f p).1 S So T F → Gx (fun j => ¬ F j) w w1 → Rt (H [.bool (relS t f p).2] w1) Q) : Rt (Big.cl (butteryref6_Cache_Release n [pt r, .int .i64 f, .int .i64 p] w) H) Q := by
  obtain ⟨_, e, w1, rfl, g1, c1⟩ := RRel_spec (f := f) (p := p) h.r ho hn
  exact Rt.cl e (hf w1 (h.stR c1 g1 fun j hj => .inl hj) (h.gT g1))
theorem Tri.rdrop (h : Tri w0 w cb ob r s so t S So T F) (ho : Ok N t) (hn : 2 ^ 60 < n) {H : List Value → World → Option α}
    (hf : ∀ w1 T', Tri w0 w1 cb ob r s so (dropS n t f).1 S So T' F → Gx (fun j => ¬ F j) w w1 → Rt (H [.int .i64 (dropS n t f).2] w1) Q) : Rt (Big.cl (butteryref6_Cache_Drop n [pt r, .int .i64 f] w) H) Q := by
  obtain ⟨_, e, w1, T', rfl, g1, hs, c1⟩ := RDrop_spec (f := f) h.r ho hn
  exact Rt.cl e (hf w1 T' (h.stR c1 g1 hs) (h.gT g1))
theorem Tri.rput (h : Tri w0 w cb ob r s so t S So T F) (ho : Ok N t) (hB : Stb T (fun w => Bv .u8 w B m d bs) w) (hm : m ≤ 2 ^ 20) (hn : 2 ^ 60 < n) {H : List Value → World → Option α}
    (hf : ∀ w1 T', Tri w0 w1 cb ob r s so (putS n t f p bs).1 S So T' F → Gx (fun j => ¬ F j) w w1 → Rt (H [.bool (putS n t f p bs).2] w1) Q) : Rt (Big.cl (butteryref6_Cache_Put n [pt r, .int .i64 f, .int .i64 p, .slice B m d] w) H) Q := by
  obtain ⟨_, e, w1, T', rfl, g1, hs, c1⟩ := RPut_spec (f := f) (p := p) h.r ho hB hm hn
  exact Rt.cl e (hf w1 T' (h.stR c1 g1 hs) (h.gT g1))
end
end Go.Proofs.Ytdnbpgakmbamoaa.Ck
