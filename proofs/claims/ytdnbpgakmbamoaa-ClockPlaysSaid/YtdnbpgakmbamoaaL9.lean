/- Clock, the definition's cache: Put makes room. -/
import Derived.Test.YtdnbpgakmbamoaaL8
namespace Go.Proofs.Ytdnbpgakmbamoaa.Ck
open Go Big Go.RowKit Go.IntWalk
set_option linter.unusedVariables false
set_option linter.unusedSimpArgs false
section
variable {α : Type} {Q : α → Prop} {n m base r cb : Nat} {w w' w0 : World} {S T S0 R : Nat → Prop} {A B : Option Addr} {l c d bl : Nat} {xs : List (List Value)} {s : Ca} {f p : Int} {N : Nat}
/-- The measure of the outer loop: how many slots there are. -/
theorem inner_len {N : Nat} : ∀ (left : Nat) (s : Ca), Ok N s → left ≤ 2 * s.l.length → ((innerF left s).2 = true → (innerF left s).1.l.length < s.l.length) ∧ (innerF left s).1.l.length ≤ s.l.length ∧ (innerF left s).1.room = s.room
  | 0, s, _, _ => ⟨fun h => (by cases h), Nat.le_refl _, rfl⟩
  | left + 1, s, ho, hl => by
    obtain ⟨x, hx⟩ := hand_at ho (by omega)
    by_cases hp : 0 < x.pins ∨ x.mark = true
    · rw [inner_pass hx hp]
      have hlen : (passS s x).l.length = s.l.length := pass_len
      have := inner_len left (passS s x) (ho.pass hx) (by rw [hlen]; omega)
      rw [hlen] at this
      have hr : (passS s x).room = s.room := (round_l _).2.1
      rw [hr] at this
      exact this
    · rw [inner_gone hx hp]
      have hg := gone_len hx
      exact ⟨fun _ => by dsimp only; omega, by dsimp only; omega, (out_hand hx).2.1⟩
theorem RPut_l0 {bd : Nat} (hn : 2 ^ 60 < n) (hbl : bl ≤ 2 ^ 20) : ∀ (q m N' : Nat) (w : World) (s : Ca) (S : Nat → Prop), s.l.length < q → q < m → Rc w S r s → Ok N s → Gx S0 w0 w → (∀ j, S j → S0 j ∨ w0.heap.size ≤ j) → fuelM s.l.length (2 * s.l.length) < N' →
    Rt (butteryref6_Cache_Put.l0 n m (some ⟨r, 0, none⟩) f p B bl bd w) fun y => ∃ w1 S1, ((freeF N' s bl (2 * s.l.length)).2 = true ∧ y = ⟨.exit 0, [pt r, .int .i64 f, .int .i64 p, .slice B bl bd], w1⟩ ∨ (freeF N' s bl (2 * s.l.length)).2 = false ∧ y = ⟨.ret, [.bool false], w1⟩) ∧ Gx S0 w0 w1 ∧ (∀ j, S1 j → S0 j ∨ w0.heap.size ≤ j) ∧ Rc w1 S1 r (freeF N' s bl (2 * s.l.length)).1 := by
  intro q
  induction q with
  | zero => intro m N' w s S hq; omega
  | succ q ih =>
    intro m N' w s S hq hm h ho hg hs hN
    obtain ⟨m, rfl⟩ : ∃ m', m = m' + 1 := ⟨m - 1, by omega⟩
    rw [butteryref6_Cache_Put.l0_succ]
    have kd : Kp w w.drew := (Kp.rfl' w).dr
    have hd := h.kp kd
    obtain ⟨A, c, xs, hV⟩ := id hd
    obtain ⟨room, hroom, hlc⟩ := hV.lc
    have hrng := ho.rng
    have hbig := ho.big
    have hsr := ho.room
    obtain ⟨_, hu, rfl⟩ := RUsed_spec (n := n) hV ho hn
    refine Rt.cl hu ?_
    (repeat (first | (with_reducible (first | refine Rt.fin ?_ | refine Rt.tL ?_ | refine Rt.tI ?_ | refine Rt.tB ?_ | refine Rt.tS ?_ | refine Rt.tP ?_ | refine Rt.tD ?_ | refine Rt.tM ?_ | refine Rt.tC ?_ | refine Rt.tN ?_ | refine Rt.tA ?_ | refine Rt.tG ?_ | refine Rt.tF ?_ | refine Rt.os ?_ | refine Rt.clS ?_ | refine Rt.jmN ?_ | refine Rt.jbN ?_ | refine Rt.jbE ?_)) | ((with_reducible (first | apply Rt.ld0 | apply Rt.ld1 | apply Rt.ld2 | apply Rt.ld3 | apply Rt.ld4 | apply Rt.ld5)); first | assumption | exact Lc.kp (by assumption) (by assumption)) | ((with_reducible apply Rt.ol); first | assumption | exact cell_kp (by assumption) (by assumption)) | ((with_reducible apply Rt.ckR); focus ((repeat (first | (with_reducible (first | refine Rt.fin ?_ | refine Rt.tL ?_ | refine Rt.tI ?_ | refine Rt.tB ?_ | refine Rt.tS ?_ | refine Rt.tP ?_ | refine Rt.tD ?_ | refine Rt.tM ?_ | refine Rt.tC ?_ | refine Rt.tN ?_ | refine Rt.tA ?_ | refine Rt.tG ?_ | refine Rt.tF ?_ | refine Rt.os ?_ | refine Rt.clS ?_ | refine Rt.jmN ?_ | refine Rt.jbN ?_ | refine Rt.jbE ?_)) | ((with_reducible (first | apply Rt.ld0 | apply Rt.ld1 | apply Rt.ld2 | apply Rt.ld3 | apply Rt.ld4 | apply Rt.ld5)); first | assumption | exact Lc.kp (by assumption) (by assumption)) | ((with_reducible apply Rt.ol); first | assumption | exact cell_kp (by assumption) (by assumption)))); exact Rt.some' rfl))))
    rw [i64_in _ (by omega)]
    have gd : Gx S0 w0 w.drew := hg.tr kd.gx
    refine Rt.cD (fun hgt => ?_) fun hgt => ?_
    · have hk : ¬ (bl : Int) ≤ s.room - s.used := by
        split at hroom <;> omega
      obtain ⟨f1, f2, f3⟩ := freeF_inner (2 * s.l.length) N' s ho hk (Nat.le_refl _) hN
      obtain ⟨l1, l2, l3⟩ := inner_len (2 * s.l.length) s ho (Nat.le_refl _)
      refine Rt.jb (Rt.mono (RPut_l1 (n := n) (f := f) (p := p) (B := B) (bl := bl) (bd := bd) hn (2 * s.l.length) 0 n w.drew s S (by omega) (by omega) hd ho gd hs) ?_)
      rintro _ ⟨w1, S1, rfl, g1, hs1, h1⟩
      refine .inl ⟨.inr rfl, ?_⟩
      (repeat (first | (with_reducible (first | refine Rt.fin ?_ | refine Rt.tL ?_ | refine Rt.tI ?_ | refine Rt.tB ?_ | refine Rt.tS ?_ | refine Rt.tP ?_ | refine Rt.tD ?_ | refine Rt.tM ?_ | refine Rt.tC ?_ | refine Rt.tN ?_ | refine Rt.tA ?_ | refine Rt.tG ?_ | refine Rt.tF ?_ | refine Rt.os ?_ | refine Rt.clS ?_ | refine Rt.jmN ?_ | refine Rt.jbN ?_ | refine Rt.jbE ?_)) | ((with_reducible (first | apply Rt.ld0 | apply Rt.ld1 | apply Rt.ld2 | apply Rt.ld3 | apply Rt.ld4 | apply Rt.ld5)); first | assumption | exact Lc.kp (by assumption) (by assumption)) | ((with_reducible apply Rt.ol); first | assumption | exact cell_kp (by assumption) (by assumption)) | ((with_reducible apply Rt.ckR); focus ((repeat (first | (with_reducible (first | refine Rt.fin ?_ | refine Rt.tL ?_ | refine Rt.tI ?_ | refine Rt.tB ?_ | refine Rt.tS ?_ | refine Rt.tP ?_ | refine Rt.tD ?_ | refine Rt.tM ?_ | refine Rt.tC ?_ | refine Rt.tN ?_ | refine Rt.tA ?_ | refine Rt.tG ?_ | refine Rt.tF ?_ | refine Rt.os ?_ | refine Rt.clS ?_ | refine Rt.jmN ?_ | refine Rt.jbN ?_ | refine Rt.jbE ?_)) | ((with_reducible (first | apply Rt.ld0 | apply Rt.ld1 | apply Rt.ld2 | apply Rt.ld3 | apply Rt.ld4 | apply Rt.ld5)); first | assumption | exact Lc.kp (by assumption) (by assumption)) | ((with_reducible apply Rt.ol); first | assumption | exact cell_kp (by assumption) (by assumption)))); exact Rt.some' rfl))))
      cases hb : (innerF (2 * s.l.length) s).2 with
      | false =>
        rw [f2 hb]
        exact Rt.cT rfl (Rt.some' ⟨w1, S1, .inr ⟨rfl, rfl⟩, g1, hs1, h1⟩)
      | true =>
        obtain ⟨m1, hm1, e1⟩ := f1 hb
        rw [e1]
        refine Rt.cF rfl ?_
        have := l1 hb
        exact ih m m1 w1 _ S1 (by omega) (by omega) h1 f3 g1 hs1 hm1
    · have hk : (bl : Int) ≤ s.room - s.used := by
        split at hroom <;> omega
      obtain ⟨N', rfl⟩ : ∃ q', N' = q' + 1 := ⟨N' - 1, by omega⟩
      rw [free_yes hk]
      exact Rt.some' ⟨w.drew, S, .inl ⟨rfl, rfl⟩, gd, hs, hd⟩
end
end Go.Proofs.Ytdnbpgakmbamoaa.Ck
