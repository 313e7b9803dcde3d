/- Frames: a log is read by the program. -/
import Derived.Test.YtebcmkohnebgmaaDoorF3
namespace Go.Proofs.YtebcmkohnebgmaaDoor.Fr
open Go Big Go.RowKit Go.IntWalk Crc
set_option linter.unusedVariables false
set_option linter.unusedSimpArgs false
/-- A row of bytes in one cell. -/
def byEl : El (List Int) where
  sz := 1
  rd w vs x := ∃ A l c, vs = [.slice A l c] ∧ Bv .u8 w A l c x
  kp := fun hk ⟨A, l, c, e, h⟩ => ⟨A, l, c, e, h.kp hk⟩
  one := fun ⟨A, l, c, e, h⟩ u hu => by subst e; rw [List.mem_singleton.1 hu]; rfl
theorem slL : ∃ i v, SlTE Tryd.prog 26 22 1 i v := slTE (by kernel_rfl)
section
variable {α : Type} {Q : α → Prop} {n : Nat} {w w' w0 w1 : World} {A B C : Option Addr} {l c d base lo co at_ p tk : Nat} {k : Int} {x r out o zs s now : List Int} {rs acc : List (List Int)} {wi : Bool}
theorem Own_stb {K : IntKind} {e : TypeId} {S : Nat → Prop} {xs : List Int} (h : Own K e w base (.slice A l c) xs) (hr : ∀ x ∈ xs, (Lit.int K x).wf = true) (hS : ∀ j, On (.slice A l c) j → ¬ S j) : Stb S (fun w => Bv K w A l c xs) w :=
  fun w' hg => (h.gx hg hS).bv hr
theorem OwnX_less' {γ : Type} {E : El γ} {e : TypeId} {v : Value} {xs : List γ} {S S' : Nat → Prop} (h : OwnX S E e w base v xs) (hs : ∀ k, k < w.heap.size → S' k → S k ∨ On v k) : OwnX S' E e w base v xs := by
  obtain ⟨vs, h1, h2⟩ := h
  exact ⟨vs, h1, h2.less fun k hk h => h.elim (hs k hk) .inr⟩
/-- The program's reader, in its block. -/
structure RX (w : World) (p : Nat) (A : Option Addr) (c : Nat) (B : Option Addr) (l d at_ : Nat) (R : Option Addr) (rc : Nat) (rs : List (List Int)) (N : Option Addr) (nc : Nat) (now : List Int) (wi : Bool) (tk : Nat) : Prop where
  lc : Lc w p [.slice A 256 c, .slice B l d, .int .i64 (at_ : Int), .slice R rs.length rc, .slice N now.length nc, .bool wi, .int .i64 (tk : Int)]
  ro : OwnX (fun j => j = p ∨ On (.slice N now.length nc) j) byEl 22 w (p + 1) (.slice R rs.length rc) rs
  re : Own .u8 5 w (p + 1) (.slice N now.length nc) now
  by_ : Bytes now
  ne : ∀ j, On (.slice N now.length nc) j → ¬ On (.slice R rs.length rc) j
theorem RX.np {R N : Option Addr} {rc nc : Nat} (h : RX w p A c B l d at_ R rc rs N nc now wi tk) : ∀ j, On (.slice N now.length nc) j → j ≠ p := fun j hj hp => by have := (h.re.lt j hj).1; omega
theorem RX.rp {R N : Option Addr} {rc nc : Nat} (h : RX w p A c B l d at_ R rc rs N nc now wi tk) : ∀ j, On (.slice R rs.length rc) j → j ≠ p := fun j hj hp => by have := (h.ro.lt j hj).1; omega
theorem RX.kp {R N : Option Addr} {rc nc : Nat} (h : RX w p A c B l d at_ R rc rs N nc now wi tk) (hk : Kp w w') : RX w' p A c B l d at_ R rc rs N nc now wi tk :=
  ⟨h.lc.kp hk, h.ro.kp hk, h.re.kp hk, h.by_, h.ne⟩
/-- A cell of the reader's own block is written. -/
theorem RX.put {R N : Option Addr} {rc nc a2 tk2 : Nat} {wi2 : Bool} (h : RX w p A c B l d at_ R rc rs N nc now wi tk) (g : Gx (fun j => j = p) w w') (hl : Lc w' p [.slice A 256 c, .slice B l d, .int .i64 (a2 : Int), .slice R rs.length rc, .slice N now.length nc, .bool wi2, .int .i64 (tk2 : Int)]) : RX w' p A c B l d a2 R rc rs N nc now wi2 tk2 :=
  ⟨hl, h.ro.gx g (fun j _ hj => .inl hj) fun j hj ho => h.rp j ho hj, h.re.gx g fun j ho hj => h.np j ho hj, h.by_, h.ne⟩
def RS (w : World) (p : Nat) (A : Option Addr) (c : Nat) (B : Option Addr) (l d at_ : Nat) (rs : List (List Int)) (now : List Int) (wi : Bool) (tk : Nat) : Prop := ∃ R rc N nc, RX w p A c B l d at_ R rc rs N nc now wi tk
theorem RS.kp (h : RS w p A c B l d at_ rs now wi tk) (hk : Kp w w') : RS w' p A c B l d at_ rs now wi tk := by
  obtain ⟨R, rc, N, nc, h⟩ := h
  exact ⟨R, rc, N, nc, h.kp hk⟩
def after (at_ : Nat) (rs : List (List Int)) (now x : List Int) (u : Nat) (m : Bool) (tk : Nat) : List (List Int) × List Int × Nat := if m = true then (rs, now ++ x, tk) else (rs ++ [now ++ x], [], at_ + u)
theorem nextC_zero {a : Nat} {s : List Int} (h : nextC a s = 0) : 1 ≤ kindAt s ∧ kindAt s ≤ 4 ∧ 7 + cnt s ≤ s.length ∧ cnt s ≤ 121 := by
  unfold nextC at h
  split at h
  · cases h
  split at h
  · cases h
  split at h
  · cases h
  split at h
  · omega
  · cases h
theorem take_spec (hn : 2 ^ 50 < n) (ht : Sl .u32 w0 A 256 tab) (hb : Bv .u8 w0 B l d zs) (hl : l ≤ 2 ^ 36) (ha : at_ < l) (hm : at_ % 128 ≤ 121) (hp : w0.heap.size ≤ p) (hk : Kp w0 w) (hs : RS w p A c B l d at_ rs now wi tk) (hnow : now.length ≤ at_) (hrs : rs.length ≤ at_) :
    Rt (frame_reader_take n [.pointer (some ⟨p, 0, none⟩)] w) fun r => ∃ w', Kp w0 w' ∧ ((∃ c', lookS sm at_ (zs.drop at_) wi = .stop c' ∧ c' ≠ 0 ∧ r = ([.int .i64 c'], w') ∧ RS w' p A c B l d at_ rs now wi tk) ∨
      (∃ u x m, lookS sm at_ (zs.drop at_) wi = .go u x m ∧ r = ([.int .i64 0], w') ∧ RS w' p A c B l d (at_ + u) (after at_ rs now x u m tk).1 (after at_ rs now x u m tk).2.1 m (after at_ rs now x u m tk).2.2)) := by
  have hzl := hb.len
  have hs0 : zs.drop at_ ≠ [] := fun h => by have := congrArg List.length h; rw [List.length_drop, List.length_nil] at this; omega
  have hlk := lookS_next (a := at_) (wi := wi) hs0
  obtain ⟨R, rc, N, nc, hX⟩ := hs
  have hs : RS w p A c B l d at_ rs now wi tk := ⟨R, rc, N, nc, hX⟩
  have h1 := hX.lc
  have hpl := h1.lt
  obtain ⟨ib, hTb⟩ := slB
  obtain ⟨iL, zL, hTL⟩ := slL
  rw [frame_reader_take_eq]
  refine Rt.fin (Rt.jm (Rt.mono (Q' := fun r => ∃ p2 k E q e, r.ex = .norm ∧ r.vals = [.pointer (some ⟨p, 0, none⟩), .pointer (some ⟨p2, 0, none⟩), .int .i64 (nextC at_ (zs.drop at_))] ∧ Kp w r.w ∧ w.heap.size ≤ p2 ∧ Lc r.w p2 [.int .u8 k, .slice E q e] ∧
    (nextC at_ (zs.drop at_) = 0 → k = kindAt (zs.drop at_) ∧ Bv .u8 w0 E q e (body (zs.drop at_)))) ?_ ?_))
  · have hkd := hk.dr
    have k0 : Kp w w.drew := (Kp.rfl' w).dr
    have h1d : Lc w.drew _ _ := h1.dr'
    refine Rt.cB (fun _ => ?_) fun _ => ?_
    · (repeat (first | (with_reducible (first | refine Rt.fin ?_ | refine Rt.tL ?_ | refine Rt.tI ?_ | refine Rt.tB ?_ | refine Rt.tS ?_ | refine Rt.tP ?_ | refine Rt.tD ?_ | refine Rt.tM ?_ | refine Rt.tC ?_ | refine Rt.tN ?_ | refine Rt.tA ?_ | refine Rt.tG ?_ | refine Rt.tF ?_ | refine Rt.os ?_ | refine Rt.clS ?_ | refine Rt.jmN ?_ | refine Rt.jbN ?_ | refine Rt.jbE ?_)) | ((with_reducible (first | apply Rt.ld0 | apply Rt.ld1 | apply Rt.ld2 | apply Rt.ld3 | apply Rt.ld4 | apply Rt.ld5)); first | assumption | exact Lc.kp (by assumption) (by assumption)) | ((with_reducible apply Rt.ol); first | assumption | exact cell_kp (by assumption) (by assumption)) | ((with_reducible apply Rt.ckR); focus ((repeat (first | (with_reducible (first | refine Rt.fin ?_ | refine Rt.tL ?_ | refine Rt.tI ?_ | refine Rt.tB ?_ | refine Rt.tS ?_ | refine Rt.tP ?_ | refine Rt.tD ?_ | refine Rt.tM ?_ | refine Rt.tC ?_ | refine Rt.tN ?_ | refine Rt.tA ?_ | refine Rt.tG ?_ | refine Rt.tF ?_ | refine Rt.os ?_ | refine Rt.clS ?_ | refine Rt.jmN ?_ | refine Rt.jbN ?_ | refine Rt.jbE ?_)) | ((with_reducible (first | apply Rt.ld0 | apply Rt.ld1 | apply Rt.ld2 | apply Rt.ld3 | apply Rt.ld4 | apply Rt.ld5)); first | assumption | exact Lc.kp (by assumption) (by assumption)) | ((with_reducible apply Rt.ol); first | assumption | exact cell_kp (by assumption) (by assumption)))); exact Rt.some' rfl))))
      refine Rt.call (next_spec (w := w.drew) hn (ht.kp hkd) hkd hb (by omega) (by omega) hm) ?_
      rintro vs w2 ⟨k, E, q, e, w2', hr, k2, hx⟩
      cases hr
      (repeat (first | (with_reducible (first | refine Rt.fin ?_ | refine Rt.tL ?_ | refine Rt.tI ?_ | refine Rt.tB ?_ | refine Rt.tS ?_ | refine Rt.tP ?_ | refine Rt.tD ?_ | refine Rt.tM ?_ | refine Rt.tC ?_ | refine Rt.tN ?_ | refine Rt.tA ?_ | refine Rt.tG ?_ | refine Rt.tF ?_ | refine Rt.os ?_ | refine Rt.clS ?_ | refine Rt.jmN ?_ | refine Rt.jbN ?_ | refine Rt.jbE ?_)) | ((with_reducible (first | apply Rt.ld0 | apply Rt.ld1 | apply Rt.ld2 | apply Rt.ld3 | apply Rt.ld4 | apply Rt.ld5)); first | assumption | exact Lc.kp (by assumption) (by assumption)) | ((with_reducible apply Rt.ol); first | assumption | exact cell_kp (by assumption) (by assumption)) | ((with_reducible apply Rt.ckR); focus ((repeat (first | (with_reducible (first | refine Rt.fin ?_ | refine Rt.tL ?_ | refine Rt.tI ?_ | refine Rt.tB ?_ | refine Rt.tS ?_ | refine Rt.tP ?_ | refine Rt.tD ?_ | refine Rt.tM ?_ | refine Rt.tC ?_ | refine Rt.tN ?_ | refine Rt.tA ?_ | refine Rt.tG ?_ | refine Rt.tF ?_ | refine Rt.os ?_ | refine Rt.clS ?_ | refine Rt.jmN ?_ | refine Rt.jbN ?_ | refine Rt.jbE ?_)) | ((with_reducible (first | apply Rt.ld0 | apply Rt.ld1 | apply Rt.ld2 | apply Rt.ld3 | apply Rt.ld4 | apply Rt.ld5)); first | assumption | exact Lc.kp (by assumption) (by assumption)) | ((with_reducible apply Rt.ol); first | assumption | exact cell_kp (by assumption) (by assumption)))); exact Rt.some' rfl))))
      have k02 := k0.tr k2
      refine Rt.al fun w3 l3 k3 _ => Rt.st0 l3 fun w4 l4 g4 => Rt.st1 l4 fun w5 l5 g5 => ?_
      have hg := g4.tr g5
      have k5 : Kp w w5 := (k02.tr k3).tx hg fun j hj => by subst hj; exact k02.size
      exact Rt.some' ⟨w2.heap.size, k, E, q, e, rfl, rfl, k5, k02.size, l5, hx⟩
    · (repeat (first | (with_reducible (first | refine Rt.fin ?_ | refine Rt.tL ?_ | refine Rt.tI ?_ | refine Rt.tB ?_ | refine Rt.tS ?_ | refine Rt.tP ?_ | refine Rt.tD ?_ | refine Rt.tM ?_ | refine Rt.tC ?_ | refine Rt.tN ?_ | refine Rt.tA ?_ | refine Rt.tG ?_ | refine Rt.tF ?_ | refine Rt.os ?_ | refine Rt.clS ?_ | refine Rt.jmN ?_ | refine Rt.jbN ?_ | refine Rt.jbE ?_)) | ((with_reducible (first | apply Rt.ld0 | apply Rt.ld1 | apply Rt.ld2 | apply Rt.ld3 | apply Rt.ld4 | apply Rt.ld5)); first | assumption | exact Lc.kp (by assumption) (by assumption)) | ((with_reducible apply Rt.ol); first | assumption | exact cell_kp (by assumption) (by assumption)) | ((with_reducible apply Rt.ckR); focus ((repeat (first | (with_reducible (first | refine Rt.fin ?_ | refine Rt.tL ?_ | refine Rt.tI ?_ | refine Rt.tB ?_ | refine Rt.tS ?_ | refine Rt.tP ?_ | refine Rt.tD ?_ | refine Rt.tM ?_ | refine Rt.tC ?_ | refine Rt.tN ?_ | refine Rt.tA ?_ | refine Rt.tG ?_ | refine Rt.tF ?_ | refine Rt.os ?_ | refine Rt.clS ?_ | refine Rt.jmN ?_ | refine Rt.jbN ?_ | refine Rt.jbE ?_)) | ((with_reducible (first | apply Rt.ld0 | apply Rt.ld1 | apply Rt.ld2 | apply Rt.ld3 | apply Rt.ld4 | apply Rt.ld5)); first | assumption | exact Lc.kp (by assumption) (by assumption)) | ((with_reducible apply Rt.ol); first | assumption | exact cell_kp (by assumption) (by assumption)))); exact Rt.some' rfl))))
      refine Rt.al fun w2 l2 k2 s2 => ?_
      have h12 := h1d.kp k2
      have k02 := k0.tr k2
      refine Rt.ckR (Rt.ld2 h12 (Rt.tI (Rt.some' rfl))) (Rt.ckR (Rt.ld1 h12 (Rt.tL (Rt.some' rfl))) (Rt.ckR (Rt.ld0 h12 (Rt.tL (Rt.some' rfl))) ?_))
      have hk2 := hk.tr k02
      refine Rt.call (next_spec (w := w2) hn (ht.kp hk2) hk2 hb (by omega) (by omega) hm) ?_
      rintro vs w3 ⟨k, E, q, e, w3', hr, k3, hx⟩
      cases hr
      (repeat (first | (with_reducible (first | refine Rt.fin ?_ | refine Rt.tL ?_ | refine Rt.tI ?_ | refine Rt.tB ?_ | refine Rt.tS ?_ | refine Rt.tP ?_ | refine Rt.tD ?_ | refine Rt.tM ?_ | refine Rt.tC ?_ | refine Rt.tN ?_ | refine Rt.tA ?_ | refine Rt.tG ?_ | refine Rt.tF ?_ | refine Rt.os ?_ | refine Rt.clS ?_ | refine Rt.jmN ?_ | refine Rt.jbN ?_ | refine Rt.jbE ?_)) | ((with_reducible (first | apply Rt.ld0 | apply Rt.ld1 | apply Rt.ld2 | apply Rt.ld3 | apply Rt.ld4 | apply Rt.ld5)); first | assumption | exact Lc.kp (by assumption) (by assumption)) | ((with_reducible apply Rt.ol); first | assumption | exact cell_kp (by assumption) (by assumption)) | ((with_reducible apply Rt.ckR); focus ((repeat (first | (with_reducible (first | refine Rt.fin ?_ | refine Rt.tL ?_ | refine Rt.tI ?_ | refine Rt.tB ?_ | refine Rt.tS ?_ | refine Rt.tP ?_ | refine Rt.tD ?_ | refine Rt.tM ?_ | refine Rt.tC ?_ | refine Rt.tN ?_ | refine Rt.tA ?_ | refine Rt.tG ?_ | refine Rt.tF ?_ | refine Rt.os ?_ | refine Rt.clS ?_ | refine Rt.jmN ?_ | refine Rt.jbN ?_ | refine Rt.jbE ?_)) | ((with_reducible (first | apply Rt.ld0 | apply Rt.ld1 | apply Rt.ld2 | apply Rt.ld3 | apply Rt.ld4 | apply Rt.ld5)); first | assumption | exact Lc.kp (by assumption) (by assumption)) | ((with_reducible apply Rt.ol); first | assumption | exact cell_kp (by assumption) (by assumption)))); exact Rt.some' rfl))))
      refine Rt.st0 (l2.kp k3) fun w4 l4 g4 => Rt.st1 l4 fun w5 l5 g5 => ?_
      have hg := g4.tr g5
      have k5 : Kp w w5 := (k02.tr k3).tx hg fun j hj => by subst hj; exact Nat.le_refl _
      exact Rt.some' ⟨w.drew.heap.size, k, E, q, e, rfl, rfl, k5, Nat.le_refl _, l5, hx⟩
  · rintro ⟨ex, vs, w2⟩ ⟨p2, k, E, q, e, g1, g2, k2, hp2, l2, hx⟩
    dsimp only at g1 g2 k2 l2
    subst g1 g2
    refine ⟨rfl, ?_⟩
    (repeat (first | (with_reducible (first | refine Rt.fin ?_ | refine Rt.tL ?_ | refine Rt.tI ?_ | refine Rt.tB ?_ | refine Rt.tS ?_ | refine Rt.tP ?_ | refine Rt.tD ?_ | refine Rt.tM ?_ | refine Rt.tC ?_ | refine Rt.tN ?_ | refine Rt.tA ?_ | refine Rt.tG ?_ | refine Rt.tF ?_ | refine Rt.os ?_ | refine Rt.clS ?_ | refine Rt.jmN ?_ | refine Rt.jbN ?_ | refine Rt.jbE ?_)) | ((with_reducible (first | apply Rt.ld0 | apply Rt.ld1 | apply Rt.ld2 | apply Rt.ld3 | apply Rt.ld4 | apply Rt.ld5)); first | assumption | exact Lc.kp (by assumption) (by assumption)) | ((with_reducible apply Rt.ol); first | assumption | exact cell_kp (by assumption) (by assumption)) | ((with_reducible apply Rt.ckR); focus ((repeat (first | (with_reducible (first | refine Rt.fin ?_ | refine Rt.tL ?_ | refine Rt.tI ?_ | refine Rt.tB ?_ | refine Rt.tS ?_ | refine Rt.tP ?_ | refine Rt.tD ?_ | refine Rt.tM ?_ | refine Rt.tC ?_ | refine Rt.tN ?_ | refine Rt.tA ?_ | refine Rt.tG ?_ | refine Rt.tF ?_ | refine Rt.os ?_ | refine Rt.clS ?_ | refine Rt.jmN ?_ | refine Rt.jbN ?_ | refine Rt.jbE ?_)) | ((with_reducible (first | apply Rt.ld0 | apply Rt.ld1 | apply Rt.ld2 | apply Rt.ld3 | apply Rt.ld4 | apply Rt.ld5)); first | assumption | exact Lc.kp (by assumption) (by assumption)) | ((with_reducible apply Rt.ol); first | assumption | exact cell_kp (by assumption) (by assumption)))); exact Rt.some' rfl))))
    refine Rt.cN (fun h0 => ?_) fun h0 => Rt.some' ⟨rfl, w2, hk.tr k2, .inl ⟨_, by rw [hlk, if_neg h0], h0, rfl, hs.kp k2⟩⟩
    obtain ⟨hkk, bE⟩ := hx h0
    rw [if_pos h0] at hlk
    obtain ⟨hk1, hk4, hc1, hc2⟩ := nextC_zero h0
    rw [← hkk] at hk1 hk4 hlk
    have h12 := h1.kp k2
    have l2d : Lc w2.drew _ _ := l2.dr'
    have h1d : Lc w2.drew _ _ := h12.dr'
    have hkc : k = 1 ∨ k = 2 ∨ k = 3 ∨ k = 4 := by omega
    by_cases hwi : (wi = true ↔ 3 ≤ k)
    · rw [if_pos hwi] at hlk
      refine Rt.jm (Rt.mono (Q' := fun r => r = ⟨.norm, [.pointer (some ⟨p, 0, none⟩), .pointer (some ⟨p2, 0, none⟩)], w2.drew⟩) ?_ ?_)
      · dsimp only
        (repeat (first | (with_reducible (first | refine Rt.fin ?_ | refine Rt.tL ?_ | refine Rt.tI ?_ | refine Rt.tB ?_ | refine Rt.tS ?_ | refine Rt.tP ?_ | refine Rt.tD ?_ | refine Rt.tM ?_ | refine Rt.tC ?_ | refine Rt.tN ?_ | refine Rt.tA ?_ | refine Rt.tG ?_ | refine Rt.tF ?_ | refine Rt.os ?_ | refine Rt.clS ?_ | refine Rt.jmN ?_ | refine Rt.jbN ?_ | refine Rt.jbE ?_)) | ((with_reducible (first | apply Rt.ld0 | apply Rt.ld1 | apply Rt.ld2 | apply Rt.ld3 | apply Rt.ld4 | apply Rt.ld5)); first | assumption | exact Lc.kp (by assumption) (by assumption)) | ((with_reducible apply Rt.ol); first | assumption | exact cell_kp (by assumption) (by assumption)) | ((with_reducible apply Rt.ckR); focus ((repeat (first | (with_reducible (first | refine Rt.fin ?_ | refine Rt.tL ?_ | refine Rt.tI ?_ | refine Rt.tB ?_ | refine Rt.tS ?_ | refine Rt.tP ?_ | refine Rt.tD ?_ | refine Rt.tM ?_ | refine Rt.tC ?_ | refine Rt.tN ?_ | refine Rt.tA ?_ | refine Rt.tG ?_ | refine Rt.tF ?_ | refine Rt.os ?_ | refine Rt.clS ?_ | refine Rt.jmN ?_ | refine Rt.jbN ?_ | refine Rt.jbE ?_)) | ((with_reducible (first | apply Rt.ld0 | apply Rt.ld1 | apply Rt.ld2 | apply Rt.ld3 | apply Rt.ld4 | apply Rt.ld5)); first | assumption | exact Lc.kp (by assumption) (by assumption)) | ((with_reducible apply Rt.ol); first | assumption | exact cell_kp (by assumption) (by assumption)))); exact Rt.some' rfl))))
        clear hs hX hlk hx bE h1 h12 l2 hkk
        rcases hkc with rfl | rfl | rfl | rfl <;> cases wi <;> first | exact absurd hwi (by decide) | exact Rt.cT rfl (Rt.cF rfl (Rt.some' rfl)) | (refine Rt.cF rfl ?_; (repeat (first | (with_reducible (first | refine Rt.fin ?_ | refine Rt.tL ?_ | refine Rt.tI ?_ | refine Rt.tB ?_ | refine Rt.tS ?_ | refine Rt.tP ?_ | refine Rt.tD ?_ | refine Rt.tM ?_ | refine Rt.tC ?_ | refine Rt.tN ?_ | refine Rt.tA ?_ | refine Rt.tG ?_ | refine Rt.tF ?_ | refine Rt.os ?_ | refine Rt.clS ?_ | refine Rt.jmN ?_ | refine Rt.jbN ?_ | refine Rt.jbE ?_)) | ((with_reducible (first | apply Rt.ld0 | apply Rt.ld1 | apply Rt.ld2 | apply Rt.ld3 | apply Rt.ld4 | apply Rt.ld5)); first | assumption | exact Lc.kp (by assumption) (by assumption)) | ((with_reducible apply Rt.ol); first | assumption | exact cell_kp (by assumption) (by assumption)) | ((with_reducible apply Rt.ckR); focus ((repeat (first | (with_reducible (first | refine Rt.fin ?_ | refine Rt.tL ?_ | refine Rt.tI ?_ | refine Rt.tB ?_ | refine Rt.tS ?_ | refine Rt.tP ?_ | refine Rt.tD ?_ | refine Rt.tM ?_ | refine Rt.tC ?_ | refine Rt.tN ?_ | refine Rt.tA ?_ | refine Rt.tG ?_ | refine Rt.tF ?_ | refine Rt.os ?_ | refine Rt.clS ?_ | refine Rt.jmN ?_ | refine Rt.jbN ?_ | refine Rt.jbE ?_)) | ((with_reducible (first | apply Rt.ld0 | apply Rt.ld1 | apply Rt.ld2 | apply Rt.ld3 | apply Rt.ld4 | apply Rt.ld5)); first | assumption | exact Lc.kp (by assumption) (by assumption)) | ((with_reducible apply Rt.ol); first | assumption | exact cell_kp (by assumption) (by assumption)))); exact Rt.some' rfl)))); exact Rt.cF rfl (Rt.some' rfl))
      · rintro _ rfl
        refine ⟨rfl, ?_⟩
        dsimp only
        have k2dd : Kp w w2.drew.drew := k2.dr.dr
        have l2dd : Lc w2.drew.drew _ _ := l2d.dr'
        have h1dd : Lc w2.drew.drew _ _ := h1d.dr'
        have hcl : (body (zs.drop at_)).length = cnt (zs.drop at_) := by rw [body, List.length_take, List.length_drop]; omega
        have hq : q = cnt (zs.drop at_) := by rw [← bE.len, hcl]
        rw [List.length_drop] at hc1
        (repeat (first | (with_reducible (first | refine Rt.fin ?_ | refine Rt.tL ?_ | refine Rt.tI ?_ | refine Rt.tB ?_ | refine Rt.tS ?_ | refine Rt.tP ?_ | refine Rt.tD ?_ | refine Rt.tM ?_ | refine Rt.tC ?_ | refine Rt.tN ?_ | refine Rt.tA ?_ | refine Rt.tG ?_ | refine Rt.tF ?_ | refine Rt.os ?_ | refine Rt.clS ?_ | refine Rt.jmN ?_ | refine Rt.jbN ?_ | refine Rt.jbE ?_)) | ((with_reducible (first | apply Rt.ld0 | apply Rt.ld1 | apply Rt.ld2 | apply Rt.ld3 | apply Rt.ld4 | apply Rt.ld5)); first | assumption | exact Lc.kp (by assumption) (by assumption)) | ((with_reducible apply Rt.ol); first | assumption | exact cell_kp (by assumption) (by assumption)) | ((with_reducible apply Rt.ckR); focus ((repeat (first | (with_reducible (first | refine Rt.fin ?_ | refine Rt.tL ?_ | refine Rt.tI ?_ | refine Rt.tB ?_ | refine Rt.tS ?_ | refine Rt.tP ?_ | refine Rt.tD ?_ | refine Rt.tM ?_ | refine Rt.tC ?_ | refine Rt.tN ?_ | refine Rt.tA ?_ | refine Rt.tG ?_ | refine Rt.tF ?_ | refine Rt.os ?_ | refine Rt.clS ?_ | refine Rt.jmN ?_ | refine Rt.jbN ?_ | refine Rt.jbE ?_)) | ((with_reducible (first | apply Rt.ld0 | apply Rt.ld1 | apply Rt.ld2 | apply Rt.ld3 | apply Rt.ld4 | apply Rt.ld5)); first | assumption | exact Lc.kp (by assumption) (by assumption)) | ((with_reducible apply Rt.ol); first | assumption | exact cell_kp (by assumption) (by assumption)))); exact Rt.some' rfl))))
        rw [i64_in ((7 : Int) + (q : Int)) (by omega), i64_in _ (by omega), show (at_ : Int) + (7 + (q : Int)) = ((at_ + (7 + cnt (zs.drop at_)) : Nat) : Int) by omega]
        refine Rt.stn (j := 2) h1dd (by simp) fun w5 m1 g5 => ?_
        have X5 : RX w5 p A c B l d (at_ + (7 + cnt (zs.drop at_))) R rc rs N nc now wi tk := (hX.kp k2dd).put g5 m1
        have m1 := X5.lc
        have k5 : Kp w0 w5 := (hk.tr k2dd).tx g5 fun j hj => by subst hj; exact hp
        have l5 : Lc w5 p2 _ := l2dd.gx g5 (by omega)
        have l5d : Lc w5.drew _ _ := l5.dr'
        have m1d : Lc w5.drew _ _ := m1.dr'
        have hps := m1.lt
        (repeat (first | (with_reducible (first | refine Rt.fin ?_ | refine Rt.tL ?_ | refine Rt.tI ?_ | refine Rt.tB ?_ | refine Rt.tS ?_ | refine Rt.tP ?_ | refine Rt.tD ?_ | refine Rt.tM ?_ | refine Rt.tC ?_ | refine Rt.tN ?_ | refine Rt.tA ?_ | refine Rt.tG ?_ | refine Rt.tF ?_ | refine Rt.os ?_ | refine Rt.clS ?_ | refine Rt.jmN ?_ | refine Rt.jbN ?_ | refine Rt.jbE ?_)) | ((with_reducible (first | apply Rt.ld0 | apply Rt.ld1 | apply Rt.ld2 | apply Rt.ld3 | apply Rt.ld4 | apply Rt.ld5)); first | assumption | exact Lc.kp (by assumption) (by assumption)) | ((with_reducible apply Rt.ol); first | assumption | exact cell_kp (by assumption) (by assumption)) | ((with_reducible apply Rt.ckR); focus ((repeat (first | (with_reducible (first | refine Rt.fin ?_ | refine Rt.tL ?_ | refine Rt.tI ?_ | refine Rt.tB ?_ | refine Rt.tS ?_ | refine Rt.tP ?_ | refine Rt.tD ?_ | refine Rt.tM ?_ | refine Rt.tC ?_ | refine Rt.tN ?_ | refine Rt.tA ?_ | refine Rt.tG ?_ | refine Rt.tF ?_ | refine Rt.os ?_ | refine Rt.clS ?_ | refine Rt.jmN ?_ | refine Rt.jbN ?_ | refine Rt.jbE ?_)) | ((with_reducible (first | apply Rt.ld0 | apply Rt.ld1 | apply Rt.ld2 | apply Rt.ld3 | apply Rt.ld4 | apply Rt.ld5)); first | assumption | exact Lc.kp (by assumption) (by assumption)) | ((with_reducible apply Rt.ol); first | assumption | exact cell_kp (by assumption) (by assumption)))); exact Rt.some' rfl))))
        have hnl : now.length + q ≤ 2 ^ 40 := by omega
        refine Rt.appO hTb X5.re.dr (bE.kp k5.dr).sl bE.nil (by omega) hps fun N2 nc2 w6 o6 hN2 g6 => ?_
        (repeat (first | (with_reducible (first | refine Rt.fin ?_ | refine Rt.tL ?_ | refine Rt.tI ?_ | refine Rt.tB ?_ | refine Rt.tS ?_ | refine Rt.tP ?_ | refine Rt.tD ?_ | refine Rt.tM ?_ | refine Rt.tC ?_ | refine Rt.tN ?_ | refine Rt.tA ?_ | refine Rt.tG ?_ | refine Rt.tF ?_ | refine Rt.os ?_ | refine Rt.clS ?_ | refine Rt.jmN ?_ | refine Rt.jbN ?_ | refine Rt.jbE ?_)) | ((with_reducible (first | apply Rt.ld0 | apply Rt.ld1 | apply Rt.ld2 | apply Rt.ld3 | apply Rt.ld4 | apply Rt.ld5)); first | assumption | exact Lc.kp (by assumption) (by assumption)) | ((with_reducible apply Rt.ol); first | assumption | exact cell_kp (by assumption) (by assumption)) | ((with_reducible apply Rt.ckR); focus ((repeat (first | (with_reducible (first | refine Rt.fin ?_ | refine Rt.tL ?_ | refine Rt.tI ?_ | refine Rt.tB ?_ | refine Rt.tS ?_ | refine Rt.tP ?_ | refine Rt.tD ?_ | refine Rt.tM ?_ | refine Rt.tC ?_ | refine Rt.tN ?_ | refine Rt.tA ?_ | refine Rt.tG ?_ | refine Rt.tF ?_ | refine Rt.os ?_ | refine Rt.clS ?_ | refine Rt.jmN ?_ | refine Rt.jbN ?_ | refine Rt.jbE ?_)) | ((with_reducible (first | apply Rt.ld0 | apply Rt.ld1 | apply Rt.ld2 | apply Rt.ld3 | apply Rt.ld4 | apply Rt.ld5)); first | assumption | exact Lc.kp (by assumption) (by assumption)) | ((with_reducible apply Rt.ol); first | assumption | exact cell_kp (by assumption) (by assumption)))); exact Rt.some' rfl))))
        have g6 : Gx (On (.slice N now.length nc)) w5 w6 := ((Kp.rfl' w5).dr.gx).tr g6
        have hN2 : ∀ j, On (.slice N2 (now.length + q) nc2) j → On (.slice N now.length nc) j ∨ w5.heap.size ≤ j := hN2
        have hlt : now.length + q = (now ++ body (zs.drop at_)).length := by rw [List.length_append, hcl, hq]
        rw [hlt] at o6 hN2 ⊢
        have m6 := m1.gx g6 (fun h => X5.np p h rfl)
        have l6 := l5.gx g6 (fun h => by have := (hX.re.lt _ h).2; omega)
        have ro6 := ((OwnX_less' X5.ro (S' := fun j => (j = p ∨ On (.slice N2 (now ++ body (zs.drop at_)).length nc2) j) ∨ On (.slice N now.length nc) j) (fun j hj hS => by
          rcases hS with (hS | hS) | hS
          · exact .inl (.inl hS)
          · rcases hN2 j hS with h | h
            · exact .inl (.inr h)
            · omega
          · exact .inl (.inr hS))).gx g6 (fun j _ hj => .inr hj) X5.ne).less (S' := fun j => j = p ∨ On (.slice N2 (now ++ body (zs.drop at_)).length nc2) j) fun j hj => .inl hj
        have ne6 : ∀ j, On (.slice N2 (now ++ body (zs.drop at_)).length nc2) j → ¬ On (.slice R rs.length rc) j := fun j hj hr => by
          rcases hN2 j hj with h | h
          · exact X5.ne j h hr
          · have := (X5.ro.lt j hr).2; omega
        have np6 : ∀ j, On (.slice N2 (now ++ body (zs.drop at_)).length nc2) j → j ≠ p := fun j hj hp' => by have := (o6.lt j hj).1; omega
        have by6 : Bytes (now ++ body (zs.drop at_)) := fun z hz => by
          rcases List.mem_append.1 hz with h | h
          · exact hX.by_ z h
          · exact bE.rng z h
        refine Rt.stn (j := 4) m6 (by simp) fun w7 m7 g7 => ?_
        have X7 : RX w7 p A c B l d (at_ + (7 + cnt (zs.drop at_))) R rc rs N2 nc2 (now ++ body (zs.drop at_)) wi tk :=
          ⟨m7, ro6.gx g7 (fun j _ hj => .inl hj) fun j hj ho => X5.rp j ho hj, o6.gx g7 fun j ho hj => np6 j ho hj, by6, ne6⟩
        have m7 := X7.lc
        have l7 := l6.gx g7 (by show ¬ p2 = p; omega)
        have k7 : Kp w0 w7 := (k5.tx g6 fun j hj => by have := (X5.re.lt j hj).1; omega).tx g7 fun j hj => by subst hj; exact hp
        refine Rt.jm (Rt.mono (Q' := fun r => ∃ w8, r = ⟨.norm, [.pointer (some ⟨p, 0, none⟩)], w8⟩ ∧ Kp w0 w8 ∧ RX w8 p A c B l d (at_ + (7 + cnt (zs.drop at_))) R rc rs N2 nc2 (now ++ body (zs.drop at_)) (decide (k = 2 ∨ k = 3)) tk) ?_ ?_)
        · (repeat (first | (with_reducible (first | refine Rt.fin ?_ | refine Rt.tL ?_ | refine Rt.tI ?_ | refine Rt.tB ?_ | refine Rt.tS ?_ | refine Rt.tP ?_ | refine Rt.tD ?_ | refine Rt.tM ?_ | refine Rt.tC ?_ | refine Rt.tN ?_ | refine Rt.tA ?_ | refine Rt.tG ?_ | refine Rt.tF ?_ | refine Rt.os ?_ | refine Rt.clS ?_ | refine Rt.jmN ?_ | refine Rt.jbN ?_ | refine Rt.jbE ?_)) | ((with_reducible (first | apply Rt.ld0 | apply Rt.ld1 | apply Rt.ld2 | apply Rt.ld3 | apply Rt.ld4 | apply Rt.ld5)); first | assumption | exact Lc.kp (by assumption) (by assumption)) | ((with_reducible apply Rt.ol); first | assumption | exact cell_kp (by assumption) (by assumption)) | ((with_reducible apply Rt.ckR); focus ((repeat (first | (with_reducible (first | refine Rt.fin ?_ | refine Rt.tL ?_ | refine Rt.tI ?_ | refine Rt.tB ?_ | refine Rt.tS ?_ | refine Rt.tP ?_ | refine Rt.tD ?_ | refine Rt.tM ?_ | refine Rt.tC ?_ | refine Rt.tN ?_ | refine Rt.tA ?_ | refine Rt.tG ?_ | refine Rt.tF ?_ | refine Rt.os ?_ | refine Rt.clS ?_ | refine Rt.jmN ?_ | refine Rt.jbN ?_ | refine Rt.jbE ?_)) | ((with_reducible (first | apply Rt.ld0 | apply Rt.ld1 | apply Rt.ld2 | apply Rt.ld3 | apply Rt.ld4 | apply Rt.ld5)); first | assumption | exact Lc.kp (by assumption) (by assumption)) | ((with_reducible apply Rt.ol); first | assumption | exact cell_kp (by assumption) (by assumption)))); exact Rt.some' rfl))))
          refine Rt.cQ (fun h2 => ?_) fun h2 => ?_
          · (repeat (first | (with_reducible (first | refine Rt.fin ?_ | refine Rt.tL ?_ | refine Rt.tI ?_ | refine Rt.tB ?_ | refine Rt.tS ?_ | refine Rt.tP ?_ | refine Rt.tD ?_ | refine Rt.tM ?_ | refine Rt.tC ?_ | refine Rt.tN ?_ | refine Rt.tA ?_ | refine Rt.tG ?_ | refine Rt.tF ?_ | refine Rt.os ?_ | refine Rt.clS ?_ | refine Rt.jmN ?_ | refine Rt.jbN ?_ | refine Rt.jbE ?_)) | ((with_reducible (first | apply Rt.ld0 | apply Rt.ld1 | apply Rt.ld2 | apply Rt.ld3 | apply Rt.ld4 | apply Rt.ld5)); first | assumption | exact Lc.kp (by assumption) (by assumption)) | ((with_reducible apply Rt.ol); first | assumption | exact cell_kp (by assumption) (by assumption)) | ((with_reducible apply Rt.ckR); focus ((repeat (first | (with_reducible (first | refine Rt.fin ?_ | refine Rt.tL ?_ | refine Rt.tI ?_ | refine Rt.tB ?_ | refine Rt.tS ?_ | refine Rt.tP ?_ | refine Rt.tD ?_ | refine Rt.tM ?_ | refine Rt.tC ?_ | refine Rt.tN ?_ | refine Rt.tA ?_ | refine Rt.tG ?_ | refine Rt.tF ?_ | refine Rt.os ?_ | refine Rt.clS ?_ | refine Rt.jmN ?_ | refine Rt.jbN ?_ | refine Rt.jbE ?_)) | ((with_reducible (first | apply Rt.ld0 | apply Rt.ld1 | apply Rt.ld2 | apply Rt.ld3 | apply Rt.ld4 | apply Rt.ld5)); first | assumption | exact Lc.kp (by assumption) (by assumption)) | ((with_reducible apply Rt.ol); first | assumption | exact cell_kp (by assumption) (by assumption)))); exact Rt.some' rfl))))
            refine Rt.stn (j := 5) m7 (by simp) fun w8 m8 g8 => Rt.some' ⟨w8, rfl, k7.tx g8 fun j hj => by subst hj; exact hp, X7.put g8 ?_⟩
            rw [decide_eq_true (.inl h2)]; exact m8
          · (repeat (first | (with_reducible (first | refine Rt.fin ?_ | refine Rt.tL ?_ | refine Rt.tI ?_ | refine Rt.tB ?_ | refine Rt.tS ?_ | refine Rt.tP ?_ | refine Rt.tD ?_ | refine Rt.tM ?_ | refine Rt.tC ?_ | refine Rt.tN ?_ | refine Rt.tA ?_ | refine Rt.tG ?_ | refine Rt.tF ?_ | refine Rt.os ?_ | refine Rt.clS ?_ | refine Rt.jmN ?_ | refine Rt.jbN ?_ | refine Rt.jbE ?_)) | ((with_reducible (first | apply Rt.ld0 | apply Rt.ld1 | apply Rt.ld2 | apply Rt.ld3 | apply Rt.ld4 | apply Rt.ld5)); first | assumption | exact Lc.kp (by assumption) (by assumption)) | ((with_reducible apply Rt.ol); first | assumption | exact cell_kp (by assumption) (by assumption)) | ((with_reducible apply Rt.ckR); focus ((repeat (first | (with_reducible (first | refine Rt.fin ?_ | refine Rt.tL ?_ | refine Rt.tI ?_ | refine Rt.tB ?_ | refine Rt.tS ?_ | refine Rt.tP ?_ | refine Rt.tD ?_ | refine Rt.tM ?_ | refine Rt.tC ?_ | refine Rt.tN ?_ | refine Rt.tA ?_ | refine Rt.tG ?_ | refine Rt.tF ?_ | refine Rt.os ?_ | refine Rt.clS ?_ | refine Rt.jmN ?_ | refine Rt.jbN ?_ | refine Rt.jbE ?_)) | ((with_reducible (first | apply Rt.ld0 | apply Rt.ld1 | apply Rt.ld2 | apply Rt.ld3 | apply Rt.ld4 | apply Rt.ld5)); first | assumption | exact Lc.kp (by assumption) (by assumption)) | ((with_reducible apply Rt.ol); first | assumption | exact cell_kp (by assumption) (by assumption)))); exact Rt.some' rfl))))
            refine Rt.stn (j := 5) m7 (by simp) fun w8 m8 g8 => Rt.some' ⟨w8, rfl, k7.tx g8 fun j hj => by subst hj; exact hp, X7.put g8 ?_⟩
            have : decide (k = 2 ∨ k = 3) = (k == 3) := by rw [Bool.eq_iff_iff]; simp [h2]
            rw [this]; exact m8
        · rintro _ ⟨w8, rfl, k8, X8⟩
          refine ⟨rfl, ?_⟩
          dsimp only
          have m8 := X8.lc
          (repeat (first | (with_reducible (first | refine Rt.fin ?_ | refine Rt.tL ?_ | refine Rt.tI ?_ | refine Rt.tB ?_ | refine Rt.tS ?_ | refine Rt.tP ?_ | refine Rt.tD ?_ | refine Rt.tM ?_ | refine Rt.tC ?_ | refine Rt.tN ?_ | refine Rt.tA ?_ | refine Rt.tG ?_ | refine Rt.tF ?_ | refine Rt.os ?_ | refine Rt.clS ?_ | refine Rt.jmN ?_ | refine Rt.jbN ?_ | refine Rt.jbE ?_)) | ((with_reducible (first | apply Rt.ld0 | apply Rt.ld1 | apply Rt.ld2 | apply Rt.ld3 | apply Rt.ld4 | apply Rt.ld5)); first | assumption | exact Lc.kp (by assumption) (by assumption)) | ((with_reducible apply Rt.ol); first | assumption | exact cell_kp (by assumption) (by assumption)) | ((with_reducible apply Rt.ckR); focus ((repeat (first | (with_reducible (first | refine Rt.fin ?_ | refine Rt.tL ?_ | refine Rt.tI ?_ | refine Rt.tB ?_ | refine Rt.tS ?_ | refine Rt.tP ?_ | refine Rt.tD ?_ | refine Rt.tM ?_ | refine Rt.tC ?_ | refine Rt.tN ?_ | refine Rt.tA ?_ | refine Rt.tG ?_ | refine Rt.tF ?_ | refine Rt.os ?_ | refine Rt.clS ?_ | refine Rt.jmN ?_ | refine Rt.jbN ?_ | refine Rt.jbE ?_)) | ((with_reducible (first | apply Rt.ld0 | apply Rt.ld1 | apply Rt.ld2 | apply Rt.ld3 | apply Rt.ld4 | apply Rt.ld5)); first | assumption | exact Lc.kp (by assumption) (by assumption)) | ((with_reducible apply Rt.ol); first | assumption | exact cell_kp (by assumption) (by assumption)))); exact Rt.some' rfl))))
          refine Rt.jm (Rt.mono (Q' := fun r => ∃ w9, r = ⟨.norm, [], w9⟩ ∧ Kp w0 w9 ∧ RS w9 p A c B l d (at_ + (7 + cnt (zs.drop at_))) (after at_ rs now (body (zs.drop at_)) (7 + cnt (zs.drop at_)) (decide (k = 2 ∨ k = 3)) tk).1 (after at_ rs now (body (zs.drop at_)) (7 + cnt (zs.drop at_)) (decide (k = 2 ∨ k = 3)) tk).2.1 (decide (k = 2 ∨ k = 3)) (after at_ rs now (body (zs.drop at_)) (7 + cnt (zs.drop at_)) (decide (k = 2 ∨ k = 3)) tk).2.2) ?_ ?_)
          · (repeat (first | (with_reducible (first | refine Rt.fin ?_ | refine Rt.tL ?_ | refine Rt.tI ?_ | refine Rt.tB ?_ | refine Rt.tS ?_ | refine Rt.tP ?_ | refine Rt.tD ?_ | refine Rt.tM ?_ | refine Rt.tC ?_ | refine Rt.tN ?_ | refine Rt.tA ?_ | refine Rt.tG ?_ | refine Rt.tF ?_ | refine Rt.os ?_ | refine Rt.clS ?_ | refine Rt.jmN ?_ | refine Rt.jbN ?_ | refine Rt.jbE ?_)) | ((with_reducible (first | apply Rt.ld0 | apply Rt.ld1 | apply Rt.ld2 | apply Rt.ld3 | apply Rt.ld4 | apply Rt.ld5)); first | assumption | exact Lc.kp (by assumption) (by assumption)) | ((with_reducible apply Rt.ol); first | assumption | exact cell_kp (by assumption) (by assumption)) | ((with_reducible apply Rt.ckR); focus ((repeat (first | (with_reducible (first | refine Rt.fin ?_ | refine Rt.tL ?_ | refine Rt.tI ?_ | refine Rt.tB ?_ | refine Rt.tS ?_ | refine Rt.tP ?_ | refine Rt.tD ?_ | refine Rt.tM ?_ | refine Rt.tC ?_ | refine Rt.tN ?_ | refine Rt.tA ?_ | refine Rt.tG ?_ | refine Rt.tF ?_ | refine Rt.os ?_ | refine Rt.clS ?_ | refine Rt.jmN ?_ | refine Rt.jbN ?_ | refine Rt.jbE ?_)) | ((with_reducible (first | apply Rt.ld0 | apply Rt.ld1 | apply Rt.ld2 | apply Rt.ld3 | apply Rt.ld4 | apply Rt.ld5)); first | assumption | exact Lc.kp (by assumption) (by assumption)) | ((with_reducible apply Rt.ol); first | assumption | exact cell_kp (by assumption) (by assumption)))); exact Rt.some' rfl))))
            generalize decide (k = 2 ∨ k = 3) = mm at X8 m8 ⊢
            cases mm with
            | true => exact Rt.cF rfl (Rt.some' ⟨w8, rfl, k8, R, rc, N2, nc2, X8⟩)
            | false =>
              refine Rt.cT rfl ?_
              have m8d : Lc w8.drew _ _ := m8.dr'
              have X8d := X8.kp (Kp.rfl' w8).dr
              have k8d := k8.dr
              (repeat (first | (with_reducible (first | refine Rt.fin ?_ | refine Rt.tL ?_ | refine Rt.tI ?_ | refine Rt.tB ?_ | refine Rt.tS ?_ | refine Rt.tP ?_ | refine Rt.tD ?_ | refine Rt.tM ?_ | refine Rt.tC ?_ | refine Rt.tN ?_ | refine Rt.tA ?_ | refine Rt.tG ?_ | refine Rt.tF ?_ | refine Rt.os ?_ | refine Rt.clS ?_ | refine Rt.jmN ?_ | refine Rt.jbN ?_ | refine Rt.jbE ?_)) | ((with_reducible (first | apply Rt.ld0 | apply Rt.ld1 | apply Rt.ld2 | apply Rt.ld3 | apply Rt.ld4 | apply Rt.ld5)); first | assumption | exact Lc.kp (by assumption) (by assumption)) | ((with_reducible apply Rt.ol); first | assumption | exact cell_kp (by assumption) (by assumption)) | ((with_reducible apply Rt.ckR); focus ((repeat (first | (with_reducible (first | refine Rt.fin ?_ | refine Rt.tL ?_ | refine Rt.tI ?_ | refine Rt.tB ?_ | refine Rt.tS ?_ | refine Rt.tP ?_ | refine Rt.tD ?_ | refine Rt.tM ?_ | refine Rt.tC ?_ | refine Rt.tN ?_ | refine Rt.tA ?_ | refine Rt.tG ?_ | refine Rt.tF ?_ | refine Rt.os ?_ | refine Rt.clS ?_ | refine Rt.jmN ?_ | refine Rt.jbN ?_ | refine Rt.jbE ?_)) | ((with_reducible (first | apply Rt.ld0 | apply Rt.ld1 | apply Rt.ld2 | apply Rt.ld3 | apply Rt.ld4 | apply Rt.ld5)); first | assumption | exact Lc.kp (by assumption) (by assumption)) | ((with_reducible apply Rt.ol); first | assumption | exact cell_kp (by assumption) (by assumption)))); exact Rt.some' rfl))))
              refine Rt.al fun w9 l9 k9 s9 => ?_
              have X9 := X8d.kp k9
              have m9 := X9.lc
              have k09 := k8d.tr k9
              refine Rt.ckR (Rt.ldn (j := 3) m9 rfl (Rt.tL (Rt.some' rfl))) ?_
              have hp9 := m9.lt
              refine Rt.app1L (S := fun j => j = p) (x := now ++ body (zs.drop at_)) rfl hTL (X9.ro.less fun j hj => .inl hj) l9 rfl (fun w2 hg => ⟨N2, _, nc2, rfl, (Own_stb X9.re by6 fun j hj hS => hS.elim (X9.np j hj) (X9.ne j hj)) w2 hg⟩) (by omega) hp9 fun R2 rc2 w10 ro10 g10 s10 => ?_
              have hlr : rs.length + 1 = (rs ++ [now ++ body (zs.drop at_)]).length := by simp
              rw [hlr] at ro10 ⊢
              have m10 := m9.gx g10 fun h => X9.rp p h rfl
              (repeat (first | (with_reducible (first | refine Rt.fin ?_ | refine Rt.tL ?_ | refine Rt.tI ?_ | refine Rt.tB ?_ | refine Rt.tS ?_ | refine Rt.tP ?_ | refine Rt.tD ?_ | refine Rt.tM ?_ | refine Rt.tC ?_ | refine Rt.tN ?_ | refine Rt.tA ?_ | refine Rt.tG ?_ | refine Rt.tF ?_ | refine Rt.os ?_ | refine Rt.clS ?_ | refine Rt.jmN ?_ | refine Rt.jbN ?_ | refine Rt.jbE ?_)) | ((with_reducible (first | apply Rt.ld0 | apply Rt.ld1 | apply Rt.ld2 | apply Rt.ld3 | apply Rt.ld4 | apply Rt.ld5)); first | assumption | exact Lc.kp (by assumption) (by assumption)) | ((with_reducible apply Rt.ol); first | assumption | exact cell_kp (by assumption) (by assumption)) | ((with_reducible apply Rt.ckR); focus ((repeat (first | (with_reducible (first | refine Rt.fin ?_ | refine Rt.tL ?_ | refine Rt.tI ?_ | refine Rt.tB ?_ | refine Rt.tS ?_ | refine Rt.tP ?_ | refine Rt.tD ?_ | refine Rt.tM ?_ | refine Rt.tC ?_ | refine Rt.tN ?_ | refine Rt.tA ?_ | refine Rt.tG ?_ | refine Rt.tF ?_ | refine Rt.os ?_ | refine Rt.clS ?_ | refine Rt.jmN ?_ | refine Rt.jbN ?_ | refine Rt.jbE ?_)) | ((with_reducible (first | apply Rt.ld0 | apply Rt.ld1 | apply Rt.ld2 | apply Rt.ld3 | apply Rt.ld4 | apply Rt.ld5)); first | assumption | exact Lc.kp (by assumption) (by assumption)) | ((with_reducible apply Rt.ol); first | assumption | exact cell_kp (by assumption) (by assumption)))); exact Rt.some' rfl))))
              refine Rt.stn (j := 3) m10 (by simp) fun w11 m11 g11 => Rt.os (Rt.stn (j := 4) m11 (by simp) fun w12 m12 g12 => Rt.os (Rt.stn (j := 6) m12 (by simp) fun w13 m13 g13 => ?_))
              have g13 := (g11.tr g12).tr g13
              refine Rt.some' ⟨w13, rfl, ((k09.tx g10 fun j hj => by have := (X9.ro.lt j hj).1; omega)).tx g13 fun j hj => by subst hj; exact hp, R2, rc2, none, 0, m13, ?_, Own.nil _ _, (fun z hz => by cases hz), fun j hj => by cases hj⟩
              refine (ro10.gx g13 (fun j _ hj => hj) fun j hj ho => ?_).less fun j hj => hj.elim id fun h => by cases h
              have := (ro10.lt j ho).1
              subst hj; omega
          · rintro _ ⟨w9, rfl, k9, X9⟩
            refine ⟨rfl, ?_⟩
            dsimp only
            (repeat (first | (with_reducible (first | refine Rt.fin ?_ | refine Rt.tL ?_ | refine Rt.tI ?_ | refine Rt.tB ?_ | refine Rt.tS ?_ | refine Rt.tP ?_ | refine Rt.tD ?_ | refine Rt.tM ?_ | refine Rt.tC ?_ | refine Rt.tN ?_ | refine Rt.tA ?_ | refine Rt.tG ?_ | refine Rt.tF ?_ | refine Rt.os ?_ | refine Rt.clS ?_ | refine Rt.jmN ?_ | refine Rt.jbN ?_ | refine Rt.jbE ?_)) | ((with_reducible (first | apply Rt.ld0 | apply Rt.ld1 | apply Rt.ld2 | apply Rt.ld3 | apply Rt.ld4 | apply Rt.ld5)); first | assumption | exact Lc.kp (by assumption) (by assumption)) | ((with_reducible apply Rt.ol); first | assumption | exact cell_kp (by assumption) (by assumption)) | ((with_reducible apply Rt.ckR); focus ((repeat (first | (with_reducible (first | refine Rt.fin ?_ | refine Rt.tL ?_ | refine Rt.tI ?_ | refine Rt.tB ?_ | refine Rt.tS ?_ | refine Rt.tP ?_ | refine Rt.tD ?_ | refine Rt.tM ?_ | refine Rt.tC ?_ | refine Rt.tN ?_ | refine Rt.tA ?_ | refine Rt.tG ?_ | refine Rt.tF ?_ | refine Rt.os ?_ | refine Rt.clS ?_ | refine Rt.jmN ?_ | refine Rt.jbN ?_ | refine Rt.jbE ?_)) | ((with_reducible (first | apply Rt.ld0 | apply Rt.ld1 | apply Rt.ld2 | apply Rt.ld3 | apply Rt.ld4 | apply Rt.ld5)); first | assumption | exact Lc.kp (by assumption) (by assumption)) | ((with_reducible apply Rt.ol); first | assumption | exact cell_kp (by assumption) (by assumption)))); exact Rt.some' rfl))))
            exact Rt.some' ⟨rfl, w9, k9, .inr ⟨_, _, _, hlk, rfl, X9⟩⟩
    · rw [if_neg hwi] at hlk
      refine Rt.jmX (Rt.mono (Q' := fun r => r = ⟨.ret, [.int .i64 2], w2.drew⟩) ?_ ?_)
      · dsimp only
        (repeat (first | (with_reducible (first | refine Rt.fin ?_ | refine Rt.tL ?_ | refine Rt.tI ?_ | refine Rt.tB ?_ | refine Rt.tS ?_ | refine Rt.tP ?_ | refine Rt.tD ?_ | refine Rt.tM ?_ | refine Rt.tC ?_ | refine Rt.tN ?_ | refine Rt.tA ?_ | refine Rt.tG ?_ | refine Rt.tF ?_ | refine Rt.os ?_ | refine Rt.clS ?_ | refine Rt.jmN ?_ | refine Rt.jbN ?_ | refine Rt.jbE ?_)) | ((with_reducible (first | apply Rt.ld0 | apply Rt.ld1 | apply Rt.ld2 | apply Rt.ld3 | apply Rt.ld4 | apply Rt.ld5)); first | assumption | exact Lc.kp (by assumption) (by assumption)) | ((with_reducible apply Rt.ol); first | assumption | exact cell_kp (by assumption) (by assumption)) | ((with_reducible apply Rt.ckR); focus ((repeat (first | (with_reducible (first | refine Rt.fin ?_ | refine Rt.tL ?_ | refine Rt.tI ?_ | refine Rt.tB ?_ | refine Rt.tS ?_ | refine Rt.tP ?_ | refine Rt.tD ?_ | refine Rt.tM ?_ | refine Rt.tC ?_ | refine Rt.tN ?_ | refine Rt.tA ?_ | refine Rt.tG ?_ | refine Rt.tF ?_ | refine Rt.os ?_ | refine Rt.clS ?_ | refine Rt.jmN ?_ | refine Rt.jbN ?_ | refine Rt.jbE ?_)) | ((with_reducible (first | apply Rt.ld0 | apply Rt.ld1 | apply Rt.ld2 | apply Rt.ld3 | apply Rt.ld4 | apply Rt.ld5)); first | assumption | exact Lc.kp (by assumption) (by assumption)) | ((with_reducible apply Rt.ol); first | assumption | exact cell_kp (by assumption) (by assumption)))); exact Rt.some' rfl))))
        clear hs hX hlk hx bE h1 h12 l2 hkk
        rcases hkc with rfl | rfl | rfl | rfl <;> cases wi <;> first | exact absurd (by decide) hwi | exact Rt.cT rfl (Rt.cT rfl (Rt.some' rfl)) | (refine Rt.cF rfl ?_; (repeat (first | (with_reducible (first | refine Rt.fin ?_ | refine Rt.tL ?_ | refine Rt.tI ?_ | refine Rt.tB ?_ | refine Rt.tS ?_ | refine Rt.tP ?_ | refine Rt.tD ?_ | refine Rt.tM ?_ | refine Rt.tC ?_ | refine Rt.tN ?_ | refine Rt.tA ?_ | refine Rt.tG ?_ | refine Rt.tF ?_ | refine Rt.os ?_ | refine Rt.clS ?_ | refine Rt.jmN ?_ | refine Rt.jbN ?_ | refine Rt.jbE ?_)) | ((with_reducible (first | apply Rt.ld0 | apply Rt.ld1 | apply Rt.ld2 | apply Rt.ld3 | apply Rt.ld4 | apply Rt.ld5)); first | assumption | exact Lc.kp (by assumption) (by assumption)) | ((with_reducible apply Rt.ol); first | assumption | exact cell_kp (by assumption) (by assumption)) | ((with_reducible apply Rt.ckR); focus ((repeat (first | (with_reducible (first | refine Rt.fin ?_ | refine Rt.tL ?_ | refine Rt.tI ?_ | refine Rt.tB ?_ | refine Rt.tS ?_ | refine Rt.tP ?_ | refine Rt.tD ?_ | refine Rt.tM ?_ | refine Rt.tC ?_ | refine Rt.tN ?_ | refine Rt.tA ?_ | refine Rt.tG ?_ | refine Rt.tF ?_ | refine Rt.os ?_ | refine Rt.clS ?_ | refine Rt.jmN ?_ | refine Rt.jbN ?_ | refine Rt.jbE ?_)) | ((with_reducible (first | apply Rt.ld0 | apply Rt.ld1 | apply Rt.ld2 | apply Rt.ld3 | apply Rt.ld4 | apply Rt.ld5)); first | assumption | exact Lc.kp (by assumption) (by assumption)) | ((with_reducible apply Rt.ol); first | assumption | exact cell_kp (by assumption) (by assumption)))); exact Rt.some' rfl)))); exact Rt.cT rfl (Rt.some' rfl))
      · rintro _ rfl
        exact .inr ⟨(fun h => by cases h), rfl, w2.drew, (hk.tr k2).dr, .inl ⟨2, hlk, by decide, rfl, hs.kp k2.dr⟩⟩
end
end Go.Proofs.YtebcmkohnebgmaaDoor.Fr
