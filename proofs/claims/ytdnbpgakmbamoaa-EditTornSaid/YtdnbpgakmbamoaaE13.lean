/- Edits: when two are one; longer and shorter rows. -/
import Derived.Test.YtdnbpgakmbamoaaE12
import Derived.Test.YtdnbpgakmbamoaaSE
namespace Go.Proofs.Ytdnbpgakmbamoaa.Ed
open Go Big Go.RowKit Go.IntWalk Cm Var Low Par
set_option linter.unusedVariables false
set_option linter.unusedSimpArgs false
set_option linter.unusedSectionVars false
section
variable {α : Type} {Q : α → Prop} {n : Nat} {w w0 : World} {A B C D : Option Addr} {l c m d p i q r : Nat} {k s s' : Int} {xs ys : List RunD} {bs zs : List Int} {x y : EditD}
theorem SameRuns_l0 (hx : Ev runEl w A l c xs) (hy : Ev runEl w B l d ys) (hl : l < 2 ^ 62) : ∀ (q i j : Nat) (w' : World), i + q = l → q < j → Kp w w' → (xs.take i = ys.take i) →
    Rt (butteryref16_SameRuns.l0 n j A l c B l d (i : Int) w') fun r => Kp w r.w ∧ (r.ex = .exit 0 ∧ r.vals = [] ∧ xs = ys ∨ r.ex = .ret ∧ r.vals = [.bool false] ∧ xs ≠ ys) := by
  intro q
  have hxl := hx.len
  have hyl := hy.len
  induction q with
  | zero =>
    intro i j w' hi hj hk hr
    obtain ⟨j, rfl⟩ : ∃ j', j = j' + 1 := ⟨j - 1, by omega⟩
    rw [butteryref16_SameRuns.l0_succ]
    exact Rt.cDF (by omega) (Rt.some' ⟨hk, .inl ⟨rfl, rfl, by rwa [List.take_of_length_le (by omega), List.take_of_length_le (by omega)] at hr⟩⟩)
  | succ q ih =>
    intro i j w' hi hj hk hr
    obtain ⟨j, rfl⟩ : ∃ j', j = j' + 1 := ⟨j - 1, by omega⟩
    rw [butteryref16_SameRuns.l0_succ]
    refine Rt.cDT (by omega) (Rt.ixR (hx.kp hk).sl (by omega) (by omega) fun x a f b c' C p q' D g v s ex hv c0 c1 c2 c3 c4 c5 => ?_)
    rw [Int.toNat_natCast] at ex
    (repeat (first | (with_reducible (first | refine Rt.fin ?_ | refine Rt.tL ?_ | refine Rt.tI ?_ | refine Rt.tB ?_ | refine Rt.tS ?_ | refine Rt.tP ?_ | refine Rt.tD ?_ | refine Rt.tM ?_ | refine Rt.tC ?_ | refine Rt.tN ?_ | refine Rt.tA ?_ | refine Rt.tG ?_ | refine Rt.tF ?_ | refine Rt.os ?_ | refine Rt.clS ?_ | refine Rt.jmN ?_ | refine Rt.jbN ?_ | refine Rt.jbE ?_)) | ((with_reducible (first | apply Rt.ld0 | apply Rt.ld1 | apply Rt.ld2 | apply Rt.ld3 | apply Rt.ld4 | apply Rt.ld5)); first | assumption | exact Lc.kp (by assumption) (by assumption)) | ((with_reducible apply Rt.ol); first | assumption | exact cell_kp (by assumption) (by assumption)) | ((with_reducible apply Rt.ckR); focus ((repeat (first | (with_reducible (first | refine Rt.fin ?_ | refine Rt.tL ?_ | refine Rt.tI ?_ | refine Rt.tB ?_ | refine Rt.tS ?_ | refine Rt.tP ?_ | refine Rt.tD ?_ | refine Rt.tM ?_ | refine Rt.tC ?_ | refine Rt.tN ?_ | refine Rt.tA ?_ | refine Rt.tG ?_ | refine Rt.tF ?_ | refine Rt.os ?_ | refine Rt.clS ?_ | refine Rt.jmN ?_ | refine Rt.jbN ?_ | refine Rt.jbE ?_)) | ((with_reducible (first | apply Rt.ld0 | apply Rt.ld1 | apply Rt.ld2 | apply Rt.ld3 | apply Rt.ld4 | apply Rt.ld5)); first | assumption | exact Lc.kp (by assumption) (by assumption)) | ((with_reducible apply Rt.ol); first | assumption | exact cell_kp (by assumption) (by assumption)))); exact Rt.some' rfl))))
    refine Rt.al6 fun w1 l1 k1 s1 => ?_
    clear c0 c1 c2 c3 c4 c5
    have hk1 := hk.tr k1
    refine Rt.ixR (hy.kp hk1).sl (by omega) (by omega) fun y a' f' b' c2' C' p' q2' D' g' v' s' ey hv' c0 c1 c2 c3 c4 c5 => ?_
    rw [Int.toNat_natCast] at ey
    (repeat (first | (with_reducible (first | refine Rt.fin ?_ | refine Rt.tL ?_ | refine Rt.tI ?_ | refine Rt.tB ?_ | refine Rt.tS ?_ | refine Rt.tP ?_ | refine Rt.tD ?_ | refine Rt.tM ?_ | refine Rt.tC ?_ | refine Rt.tN ?_ | refine Rt.tA ?_ | refine Rt.tG ?_ | refine Rt.tF ?_ | refine Rt.os ?_ | refine Rt.clS ?_ | refine Rt.jmN ?_ | refine Rt.jbN ?_ | refine Rt.jbE ?_)) | ((with_reducible (first | apply Rt.ld0 | apply Rt.ld1 | apply Rt.ld2 | apply Rt.ld3 | apply Rt.ld4 | apply Rt.ld5)); first | assumption | exact Lc.kp (by assumption) (by assumption)) | ((with_reducible apply Rt.ol); first | assumption | exact cell_kp (by assumption) (by assumption)) | ((with_reducible apply Rt.ckR); focus ((repeat (first | (with_reducible (first | refine Rt.fin ?_ | refine Rt.tL ?_ | refine Rt.tI ?_ | refine Rt.tB ?_ | refine Rt.tS ?_ | refine Rt.tP ?_ | refine Rt.tD ?_ | refine Rt.tM ?_ | refine Rt.tC ?_ | refine Rt.tN ?_ | refine Rt.tA ?_ | refine Rt.tG ?_ | refine Rt.tF ?_ | refine Rt.os ?_ | refine Rt.clS ?_ | refine Rt.jmN ?_ | refine Rt.jbN ?_ | refine Rt.jbE ?_)) | ((with_reducible (first | apply Rt.ld0 | apply Rt.ld1 | apply Rt.ld2 | apply Rt.ld3 | apply Rt.ld4 | apply Rt.ld5)); first | assumption | exact Lc.kp (by assumption) (by assumption)) | ((with_reducible apply Rt.ol); first | assumption | exact cell_kp (by assumption) (by assumption)))); exact Rt.some' rfl))))
    refine Rt.al6 fun w2 l2 k2 s2 => ?_
    clear c0 c1 c2 c3 c4 c5
    have hk2 := hk1.tr k2
    have l1 := l1.kp k2
    have hne : x ≠ y → xs ≠ ys := fun h1 h => by subst h; rw [ex] at ey; injection ey with ey; exact h1 ey
    have no : x ≠ y → Rt (some (⟨.ret, [.bool false], w2⟩ : Res)) fun r => Kp w r.w ∧ (r.ex = .exit 0 ∧ r.vals = [] ∧ xs = ys ∨ r.ex = .ret ∧ r.vals = [.bool false] ∧ xs ≠ ys) := fun h => Rt.some' ⟨hk2, .inr ⟨rfl, rfl, hne h⟩⟩
    obtain ⟨e1, e2, e3, e4, _, _, _, _, vf, vl⟩ := hv
    obtain ⟨e1', e2', e3', e4', _, _, _, _, vf', vl'⟩ := hv'
    have k12 := k1.tr k2
    (repeat (first | (with_reducible (first | refine Rt.fin ?_ | refine Rt.tL ?_ | refine Rt.tI ?_ | refine Rt.tB ?_ | refine Rt.tS ?_ | refine Rt.tP ?_ | refine Rt.tD ?_ | refine Rt.tM ?_ | refine Rt.tC ?_ | refine Rt.tN ?_ | refine Rt.tA ?_ | refine Rt.tG ?_ | refine Rt.tF ?_ | refine Rt.os ?_ | refine Rt.clS ?_ | refine Rt.jmN ?_ | refine Rt.jbN ?_ | refine Rt.jbE ?_)) | ((with_reducible (first | apply Rt.ld0 | apply Rt.ld1 | apply Rt.ld2 | apply Rt.ld3 | apply Rt.ld4 | apply Rt.ld5)); first | assumption | exact Lc.kp (by assumption) (by assumption)) | ((with_reducible apply Rt.ol); first | assumption | exact cell_kp (by assumption) (by assumption)) | ((with_reducible apply Rt.ckR); focus ((repeat (first | (with_reducible (first | refine Rt.fin ?_ | refine Rt.tL ?_ | refine Rt.tI ?_ | refine Rt.tB ?_ | refine Rt.tS ?_ | refine Rt.tP ?_ | refine Rt.tD ?_ | refine Rt.tM ?_ | refine Rt.tC ?_ | refine Rt.tN ?_ | refine Rt.tA ?_ | refine Rt.tG ?_ | refine Rt.tF ?_ | refine Rt.os ?_ | refine Rt.clS ?_ | refine Rt.jmN ?_ | refine Rt.jbN ?_ | refine Rt.jbE ?_)) | ((with_reducible (first | apply Rt.ld0 | apply Rt.ld1 | apply Rt.ld2 | apply Rt.ld3 | apply Rt.ld4 | apply Rt.ld5)); first | assumption | exact Lc.kp (by assumption) (by assumption)) | ((with_reducible apply Rt.ol); first | assumption | exact cell_kp (by assumption) (by assumption)))); exact Rt.some' rfl))))
    refine Rt.cN (fun h1 => ?_) fun h1 => no fun h => by subst h; omega
    (repeat (first | (with_reducible (first | refine Rt.fin ?_ | refine Rt.tL ?_ | refine Rt.tI ?_ | refine Rt.tB ?_ | refine Rt.tS ?_ | refine Rt.tP ?_ | refine Rt.tD ?_ | refine Rt.tM ?_ | refine Rt.tC ?_ | refine Rt.tN ?_ | refine Rt.tA ?_ | refine Rt.tG ?_ | refine Rt.tF ?_ | refine Rt.os ?_ | refine Rt.clS ?_ | refine Rt.jmN ?_ | refine Rt.jbN ?_ | refine Rt.jbE ?_)) | ((with_reducible (first | apply Rt.ld0 | apply Rt.ld1 | apply Rt.ld2 | apply Rt.ld3 | apply Rt.ld4 | apply Rt.ld5)); first | assumption | exact Lc.kp (by assumption) (by assumption)) | ((with_reducible apply Rt.ol); first | assumption | exact cell_kp (by assumption) (by assumption)) | ((with_reducible apply Rt.ckR); focus ((repeat (first | (with_reducible (first | refine Rt.fin ?_ | refine Rt.tL ?_ | refine Rt.tI ?_ | refine Rt.tB ?_ | refine Rt.tS ?_ | refine Rt.tP ?_ | refine Rt.tD ?_ | refine Rt.tM ?_ | refine Rt.tC ?_ | refine Rt.tN ?_ | refine Rt.tA ?_ | refine Rt.tG ?_ | refine Rt.tF ?_ | refine Rt.os ?_ | refine Rt.clS ?_ | refine Rt.jmN ?_ | refine Rt.jbN ?_ | refine Rt.jbE ?_)) | ((with_reducible (first | apply Rt.ld0 | apply Rt.ld1 | apply Rt.ld2 | apply Rt.ld3 | apply Rt.ld4 | apply Rt.ld5)); first | assumption | exact Lc.kp (by assumption) (by assumption)) | ((with_reducible apply Rt.ol); first | assumption | exact cell_kp (by assumption) (by assumption)))); exact Rt.some' rfl))))
    refine Rt.cN (fun h2 => ?_) fun h2 => no fun h => by subst h; omega
    (repeat (first | (with_reducible (first | refine Rt.fin ?_ | refine Rt.tL ?_ | refine Rt.tI ?_ | refine Rt.tB ?_ | refine Rt.tS ?_ | refine Rt.tP ?_ | refine Rt.tD ?_ | refine Rt.tM ?_ | refine Rt.tC ?_ | refine Rt.tN ?_ | refine Rt.tA ?_ | refine Rt.tG ?_ | refine Rt.tF ?_ | refine Rt.os ?_ | refine Rt.clS ?_ | refine Rt.jmN ?_ | refine Rt.jbN ?_ | refine Rt.jbE ?_)) | ((with_reducible (first | apply Rt.ld0 | apply Rt.ld1 | apply Rt.ld2 | apply Rt.ld3 | apply Rt.ld4 | apply Rt.ld5)); first | assumption | exact Lc.kp (by assumption) (by assumption)) | ((with_reducible apply Rt.ol); first | assumption | exact cell_kp (by assumption) (by assumption)) | ((with_reducible apply Rt.ckR); focus ((repeat (first | (with_reducible (first | refine Rt.fin ?_ | refine Rt.tL ?_ | refine Rt.tI ?_ | refine Rt.tB ?_ | refine Rt.tS ?_ | refine Rt.tP ?_ | refine Rt.tD ?_ | refine Rt.tM ?_ | refine Rt.tC ?_ | refine Rt.tN ?_ | refine Rt.tA ?_ | refine Rt.tG ?_ | refine Rt.tF ?_ | refine Rt.os ?_ | refine Rt.clS ?_ | refine Rt.jmN ?_ | refine Rt.jbN ?_ | refine Rt.jbE ?_)) | ((with_reducible (first | apply Rt.ld0 | apply Rt.ld1 | apply Rt.ld2 | apply Rt.ld3 | apply Rt.ld4 | apply Rt.ld5)); first | assumption | exact Lc.kp (by assumption) (by assumption)) | ((with_reducible apply Rt.ol); first | assumption | exact cell_kp (by assumption) (by assumption)))); exact Rt.some' rfl))))
    refine Rt.cN (fun h3 => ?_) fun h3 => no fun h => by subst h; omega
    (repeat (first | (with_reducible (first | refine Rt.fin ?_ | refine Rt.tL ?_ | refine Rt.tI ?_ | refine Rt.tB ?_ | refine Rt.tS ?_ | refine Rt.tP ?_ | refine Rt.tD ?_ | refine Rt.tM ?_ | refine Rt.tC ?_ | refine Rt.tN ?_ | refine Rt.tA ?_ | refine Rt.tG ?_ | refine Rt.tF ?_ | refine Rt.os ?_ | refine Rt.clS ?_ | refine Rt.jmN ?_ | refine Rt.jbN ?_ | refine Rt.jbE ?_)) | ((with_reducible (first | apply Rt.ld0 | apply Rt.ld1 | apply Rt.ld2 | apply Rt.ld3 | apply Rt.ld4 | apply Rt.ld5)); first | assumption | exact Lc.kp (by assumption) (by assumption)) | ((with_reducible apply Rt.ol); first | assumption | exact cell_kp (by assumption) (by assumption)) | ((with_reducible apply Rt.ckR); focus ((repeat (first | (with_reducible (first | refine Rt.fin ?_ | refine Rt.tL ?_ | refine Rt.tI ?_ | refine Rt.tB ?_ | refine Rt.tS ?_ | refine Rt.tP ?_ | refine Rt.tD ?_ | refine Rt.tM ?_ | refine Rt.tC ?_ | refine Rt.tN ?_ | refine Rt.tA ?_ | refine Rt.tG ?_ | refine Rt.tF ?_ | refine Rt.os ?_ | refine Rt.clS ?_ | refine Rt.jmN ?_ | refine Rt.jbN ?_ | refine Rt.jbE ?_)) | ((with_reducible (first | apply Rt.ld0 | apply Rt.ld1 | apply Rt.ld2 | apply Rt.ld3 | apply Rt.ld4 | apply Rt.ld5)); first | assumption | exact Lc.kp (by assumption) (by assumption)) | ((with_reducible apply Rt.ol); first | assumption | exact cell_kp (by assumption) (by assumption)))); exact Rt.some' rfl))))
    refine Rt.str (vf.kp k12) ?_
    (repeat (first | (with_reducible (first | refine Rt.fin ?_ | refine Rt.tL ?_ | refine Rt.tI ?_ | refine Rt.tB ?_ | refine Rt.tS ?_ | refine Rt.tP ?_ | refine Rt.tD ?_ | refine Rt.tM ?_ | refine Rt.tC ?_ | refine Rt.tN ?_ | refine Rt.tA ?_ | refine Rt.tG ?_ | refine Rt.tF ?_ | refine Rt.os ?_ | refine Rt.clS ?_ | refine Rt.jmN ?_ | refine Rt.jbN ?_ | refine Rt.jbE ?_)) | ((with_reducible (first | apply Rt.ld0 | apply Rt.ld1 | apply Rt.ld2 | apply Rt.ld3 | apply Rt.ld4 | apply Rt.ld5)); first | assumption | exact Lc.kp (by assumption) (by assumption)) | ((with_reducible apply Rt.ol); first | assumption | exact cell_kp (by assumption) (by assumption)) | ((with_reducible apply Rt.ckR); focus ((repeat (first | (with_reducible (first | refine Rt.fin ?_ | refine Rt.tL ?_ | refine Rt.tI ?_ | refine Rt.tB ?_ | refine Rt.tS ?_ | refine Rt.tP ?_ | refine Rt.tD ?_ | refine Rt.tM ?_ | refine Rt.tC ?_ | refine Rt.tN ?_ | refine Rt.tA ?_ | refine Rt.tG ?_ | refine Rt.tF ?_ | refine Rt.os ?_ | refine Rt.clS ?_ | refine Rt.jmN ?_ | refine Rt.jbN ?_ | refine Rt.jbE ?_)) | ((with_reducible (first | apply Rt.ld0 | apply Rt.ld1 | apply Rt.ld2 | apply Rt.ld3 | apply Rt.ld4 | apply Rt.ld5)); first | assumption | exact Lc.kp (by assumption) (by assumption)) | ((with_reducible apply Rt.ol); first | assumption | exact cell_kp (by assumption) (by assumption)))); exact Rt.some' rfl))))
    refine Rt.str (vf'.kp k2) (Rt.cSn vf.rng vf'.rng (fun h4 => ?_) fun h4 => no fun h => h4 (by rw [h]))
    (repeat (first | (with_reducible (first | refine Rt.fin ?_ | refine Rt.tL ?_ | refine Rt.tI ?_ | refine Rt.tB ?_ | refine Rt.tS ?_ | refine Rt.tP ?_ | refine Rt.tD ?_ | refine Rt.tM ?_ | refine Rt.tC ?_ | refine Rt.tN ?_ | refine Rt.tA ?_ | refine Rt.tG ?_ | refine Rt.tF ?_ | refine Rt.os ?_ | refine Rt.clS ?_ | refine Rt.jmN ?_ | refine Rt.jbN ?_ | refine Rt.jbE ?_)) | ((with_reducible (first | apply Rt.ld0 | apply Rt.ld1 | apply Rt.ld2 | apply Rt.ld3 | apply Rt.ld4 | apply Rt.ld5)); first | assumption | exact Lc.kp (by assumption) (by assumption)) | ((with_reducible apply Rt.ol); first | assumption | exact cell_kp (by assumption) (by assumption)) | ((with_reducible apply Rt.ckR); focus ((repeat (first | (with_reducible (first | refine Rt.fin ?_ | refine Rt.tL ?_ | refine Rt.tI ?_ | refine Rt.tB ?_ | refine Rt.tS ?_ | refine Rt.tP ?_ | refine Rt.tD ?_ | refine Rt.tM ?_ | refine Rt.tC ?_ | refine Rt.tN ?_ | refine Rt.tA ?_ | refine Rt.tG ?_ | refine Rt.tF ?_ | refine Rt.os ?_ | refine Rt.clS ?_ | refine Rt.jmN ?_ | refine Rt.jbN ?_ | refine Rt.jbE ?_)) | ((with_reducible (first | apply Rt.ld0 | apply Rt.ld1 | apply Rt.ld2 | apply Rt.ld3 | apply Rt.ld4 | apply Rt.ld5)); first | assumption | exact Lc.kp (by assumption) (by assumption)) | ((with_reducible apply Rt.ol); first | assumption | exact cell_kp (by assumption) (by assumption)))); exact Rt.some' rfl))))
    refine Rt.str (vl.kp k12) ?_
    (repeat (first | (with_reducible (first | refine Rt.fin ?_ | refine Rt.tL ?_ | refine Rt.tI ?_ | refine Rt.tB ?_ | refine Rt.tS ?_ | refine Rt.tP ?_ | refine Rt.tD ?_ | refine Rt.tM ?_ | refine Rt.tC ?_ | refine Rt.tN ?_ | refine Rt.tA ?_ | refine Rt.tG ?_ | refine Rt.tF ?_ | refine Rt.os ?_ | refine Rt.clS ?_ | refine Rt.jmN ?_ | refine Rt.jbN ?_ | refine Rt.jbE ?_)) | ((with_reducible (first | apply Rt.ld0 | apply Rt.ld1 | apply Rt.ld2 | apply Rt.ld3 | apply Rt.ld4 | apply Rt.ld5)); first | assumption | exact Lc.kp (by assumption) (by assumption)) | ((with_reducible apply Rt.ol); first | assumption | exact cell_kp (by assumption) (by assumption)) | ((with_reducible apply Rt.ckR); focus ((repeat (first | (with_reducible (first | refine Rt.fin ?_ | refine Rt.tL ?_ | refine Rt.tI ?_ | refine Rt.tB ?_ | refine Rt.tS ?_ | refine Rt.tP ?_ | refine Rt.tD ?_ | refine Rt.tM ?_ | refine Rt.tC ?_ | refine Rt.tN ?_ | refine Rt.tA ?_ | refine Rt.tG ?_ | refine Rt.tF ?_ | refine Rt.os ?_ | refine Rt.clS ?_ | refine Rt.jmN ?_ | refine Rt.jbN ?_ | refine Rt.jbE ?_)) | ((with_reducible (first | apply Rt.ld0 | apply Rt.ld1 | apply Rt.ld2 | apply Rt.ld3 | apply Rt.ld4 | apply Rt.ld5)); first | assumption | exact Lc.kp (by assumption) (by assumption)) | ((with_reducible apply Rt.ol); first | assumption | exact cell_kp (by assumption) (by assumption)))); exact Rt.some' rfl))))
    refine Rt.str (vl'.kp k2) (Rt.cSn vl.rng vl'.rng (fun h5 => ?_) fun h5 => no fun h => h5 (by rw [h]))
    (repeat (first | (with_reducible (first | refine Rt.fin ?_ | refine Rt.tL ?_ | refine Rt.tI ?_ | refine Rt.tB ?_ | refine Rt.tS ?_ | refine Rt.tP ?_ | refine Rt.tD ?_ | refine Rt.tM ?_ | refine Rt.tC ?_ | refine Rt.tN ?_ | refine Rt.tA ?_ | refine Rt.tG ?_ | refine Rt.tF ?_ | refine Rt.os ?_ | refine Rt.clS ?_ | refine Rt.jmN ?_ | refine Rt.jbN ?_ | refine Rt.jbE ?_)) | ((with_reducible (first | apply Rt.ld0 | apply Rt.ld1 | apply Rt.ld2 | apply Rt.ld3 | apply Rt.ld4 | apply Rt.ld5)); first | assumption | exact Lc.kp (by assumption) (by assumption)) | ((with_reducible apply Rt.ol); first | assumption | exact cell_kp (by assumption) (by assumption)) | ((with_reducible apply Rt.ckR); focus ((repeat (first | (with_reducible (first | refine Rt.fin ?_ | refine Rt.tL ?_ | refine Rt.tI ?_ | refine Rt.tB ?_ | refine Rt.tS ?_ | refine Rt.tP ?_ | refine Rt.tD ?_ | refine Rt.tM ?_ | refine Rt.tC ?_ | refine Rt.tN ?_ | refine Rt.tA ?_ | refine Rt.tG ?_ | refine Rt.tF ?_ | refine Rt.os ?_ | refine Rt.clS ?_ | refine Rt.jmN ?_ | refine Rt.jbN ?_ | refine Rt.jbE ?_)) | ((with_reducible (first | apply Rt.ld0 | apply Rt.ld1 | apply Rt.ld2 | apply Rt.ld3 | apply Rt.ld4 | apply Rt.ld5)); first | assumption | exact Lc.kp (by assumption) (by assumption)) | ((with_reducible apply Rt.ol); first | assumption | exact cell_kp (by assumption) (by assumption)))); exact Rt.some' rfl))))
    refine Rt.cN (fun h6 => ?_) fun h6 => no fun h => by subst h; omega
    rw [i64_in _ (by omega), show ((i : Int) + 1) = ((i + 1 : Nat) : Int) by omega]
    refine ih (i + 1) j _ (by omega) (by omega) hk2 ?_
    rw [List.take_add_one, List.take_add_one, hr, ex, ey]
    congr 1
    have : x = y := by
      obtain ⟨a1, a2, a3, a4, a5, a6⟩ := x
      obtain ⟨b1, b2, b3, b4, b5, b6⟩ := y
      simp only at h4 h5 e1 e2 e3 e4 e1' e2' e3' e4'
      subst h4 h5
      congr 1 <;> omega
    rw [this]
theorem SameRuns_spec (hx : Ev runEl w A l c xs) (hy : Ev runEl w B m d ys) (hl : l < 2 ^ 62) (hn : l < n) : Rt (butteryref16_SameRuns n [.slice A l c, .slice B m d] w) (RB (xs = ys) w) := by
  have hxl := hx.len
  have hyl := hy.len
  rw [butteryref16_SameRuns_eq]
  refine Rt.fin (Rt.cN (fun h => ?_) fun h => Rt.endB (by simp; intro h'; subst h'; omega) (Kp.rfl' w))
  obtain rfl : l = m := by omega
  refine Rt.jb (Rt.mono (SameRuns_l0 (n := n) hx hy hl l 0 n w (by omega) (by omega) (Kp.rfl' w) (by simp)) ?_)
  rintro ⟨ex, vs, w1⟩ ⟨k1, ⟨h3, h4, h5⟩ | ⟨h3, h4, h5⟩⟩
  · dsimp only at h3 h4 k1
    subst h3 h4
    refine .inl ⟨.inr rfl, ?_⟩
    (repeat (first | (with_reducible (first | refine Rt.fin ?_ | refine Rt.tL ?_ | refine Rt.tI ?_ | refine Rt.tB ?_ | refine Rt.tS ?_ | refine Rt.tP ?_ | refine Rt.tD ?_ | refine Rt.tM ?_ | refine Rt.tC ?_ | refine Rt.tN ?_ | refine Rt.tA ?_ | refine Rt.tG ?_ | refine Rt.tF ?_ | refine Rt.os ?_ | refine Rt.clS ?_ | refine Rt.jmN ?_ | refine Rt.jbN ?_ | refine Rt.jbE ?_)) | ((with_reducible (first | apply Rt.ld0 | apply Rt.ld1 | apply Rt.ld2 | apply Rt.ld3 | apply Rt.ld4 | apply Rt.ld5)); first | assumption | exact Lc.kp (by assumption) (by assumption)) | ((with_reducible apply Rt.ol); first | assumption | exact cell_kp (by assumption) (by assumption)) | ((with_reducible apply Rt.ckR); focus ((repeat (first | (with_reducible (first | refine Rt.fin ?_ | refine Rt.tL ?_ | refine Rt.tI ?_ | refine Rt.tB ?_ | refine Rt.tS ?_ | refine Rt.tP ?_ | refine Rt.tD ?_ | refine Rt.tM ?_ | refine Rt.tC ?_ | refine Rt.tN ?_ | refine Rt.tA ?_ | refine Rt.tG ?_ | refine Rt.tF ?_ | refine Rt.os ?_ | refine Rt.clS ?_ | refine Rt.jmN ?_ | refine Rt.jbN ?_ | refine Rt.jbE ?_)) | ((with_reducible (first | apply Rt.ld0 | apply Rt.ld1 | apply Rt.ld2 | apply Rt.ld3 | apply Rt.ld4 | apply Rt.ld5)); first | assumption | exact Lc.kp (by assumption) (by assumption)) | ((with_reducible apply Rt.ol); first | assumption | exact cell_kp (by assumption) (by assumption)))); exact Rt.some' rfl))))
    exact Rt.endB (by simp [h5]) k1
  · dsimp only at h3 h4 k1
    subst h3 h4
    exact .inr ⟨rfl, rfl, false, w1, rfl, ⟨fun h => by simp at h, fun h => absurd h h5⟩, k1⟩
theorem SameEdit_spec {en el es en' el' es' : Int} (hx : EditV w A l c B m d en el es x) (hy : EditV w C p q D i r en' el' es' y) (hl : l < 2 ^ 62) (hm : m < 2 ^ 62) (hn : l < n) (hn' : m < n) : Rt (butteryref16_SameEdit n [ev A l c B m d en el es, ev C p q D i r en' el' es'] w) (RB (x = y) w) := by
  have e1 := hx.en
  have e2 := hx.el
  have e3 := hx.es
  have e1' := hy.en
  have e2' := hy.el
  have e3' := hy.es
  rw [butteryref16_SameEdit_eq]
  refine Rt.fin (Rt.al fun w1 l1 k1 s1 => Rt.al fun w2 l2 k2 s2 => ?_)
  have l1 := l1.kp k2
  have k12 := k1.tr k2
  (repeat (first | (with_reducible (first | refine Rt.fin ?_ | refine Rt.tL ?_ | refine Rt.tI ?_ | refine Rt.tB ?_ | refine Rt.tS ?_ | refine Rt.tP ?_ | refine Rt.tD ?_ | refine Rt.tM ?_ | refine Rt.tC ?_ | refine Rt.tN ?_ | refine Rt.tA ?_ | refine Rt.tG ?_ | refine Rt.tF ?_ | refine Rt.os ?_ | refine Rt.clS ?_ | refine Rt.jmN ?_ | refine Rt.jbN ?_ | refine Rt.jbE ?_)) | ((with_reducible (first | apply Rt.ld0 | apply Rt.ld1 | apply Rt.ld2 | apply Rt.ld3 | apply Rt.ld4 | apply Rt.ld5)); first | assumption | exact Lc.kp (by assumption) (by assumption)) | ((with_reducible apply Rt.ol); first | assumption | exact cell_kp (by assumption) (by assumption)) | ((with_reducible apply Rt.ckR); focus ((repeat (first | (with_reducible (first | refine Rt.fin ?_ | refine Rt.tL ?_ | refine Rt.tI ?_ | refine Rt.tB ?_ | refine Rt.tS ?_ | refine Rt.tP ?_ | refine Rt.tD ?_ | refine Rt.tM ?_ | refine Rt.tC ?_ | refine Rt.tN ?_ | refine Rt.tA ?_ | refine Rt.tG ?_ | refine Rt.tF ?_ | refine Rt.os ?_ | refine Rt.clS ?_ | refine Rt.jmN ?_ | refine Rt.jbN ?_ | refine Rt.jbE ?_)) | ((with_reducible (first | apply Rt.ld0 | apply Rt.ld1 | apply Rt.ld2 | apply Rt.ld3 | apply Rt.ld4 | apply Rt.ld5)); first | assumption | exact Lc.kp (by assumption) (by assumption)) | ((with_reducible apply Rt.ol); first | assumption | exact cell_kp (by assumption) (by assumption)))); exact Rt.some' rfl))))
  refine Rt.cBo (SameRuns_spec (hx.add.kp k12) (hy.add.kp k12) hl hn) fun b w3 hb k3 => ?_
  have k13 := k12.tr k3
  cases b with
  | false => exact Rt.cF rfl (Rt.endB (by simp; intro h; subst h; simpa using hb.2 rfl) k13)
  | true =>
    have hb := hb.1 rfl
    have l13 := l1.kp k3
    have l23 := l2.kp k3
    refine Rt.cT rfl ?_
    (repeat (first | (with_reducible (first | refine Rt.fin ?_ | refine Rt.tL ?_ | refine Rt.tI ?_ | refine Rt.tB ?_ | refine Rt.tS ?_ | refine Rt.tP ?_ | refine Rt.tD ?_ | refine Rt.tM ?_ | refine Rt.tC ?_ | refine Rt.tN ?_ | refine Rt.tA ?_ | refine Rt.tG ?_ | refine Rt.tF ?_ | refine Rt.os ?_ | refine Rt.clS ?_ | refine Rt.jmN ?_ | refine Rt.jbN ?_ | refine Rt.jbE ?_)) | ((with_reducible (first | apply Rt.ld0 | apply Rt.ld1 | apply Rt.ld2 | apply Rt.ld3 | apply Rt.ld4 | apply Rt.ld5)); first | assumption | exact Lc.kp (by assumption) (by assumption)) | ((with_reducible apply Rt.ol); first | assumption | exact cell_kp (by assumption) (by assumption)) | ((with_reducible apply Rt.ckR); focus ((repeat (first | (with_reducible (first | refine Rt.fin ?_ | refine Rt.tL ?_ | refine Rt.tI ?_ | refine Rt.tB ?_ | refine Rt.tS ?_ | refine Rt.tP ?_ | refine Rt.tD ?_ | refine Rt.tM ?_ | refine Rt.tC ?_ | refine Rt.tN ?_ | refine Rt.tA ?_ | refine Rt.tG ?_ | refine Rt.tF ?_ | refine Rt.os ?_ | refine Rt.clS ?_ | refine Rt.jmN ?_ | refine Rt.jbN ?_ | refine Rt.jbE ?_)) | ((with_reducible (first | apply Rt.ld0 | apply Rt.ld1 | apply Rt.ld2 | apply Rt.ld3 | apply Rt.ld4 | apply Rt.ld5)); first | assumption | exact Lc.kp (by assumption) (by assumption)) | ((with_reducible apply Rt.ol); first | assumption | exact cell_kp (by assumption) (by assumption)))); exact Rt.some' rfl))))
    refine Rt.cBo (Si.SameInts_spec (hx.drop.kp k13).sl (hy.drop.kp k13).sl hm hn') fun b2 w4 hb2 k4 => ?_
    have k14 := k13.tr k4
    cases b2 with
    | false => exact Rt.cF rfl (Rt.endB (by simp; intro h; subst h; simpa using hb2.2 rfl) k14)
    | true =>
      have hb2 := hb2.1 rfl
      have l14 := l13.kp k4
      have l24 := l23.kp k4
      refine Rt.cT rfl ?_
      (repeat (first | (with_reducible (first | refine Rt.fin ?_ | refine Rt.tL ?_ | refine Rt.tI ?_ | refine Rt.tB ?_ | refine Rt.tS ?_ | refine Rt.tP ?_ | refine Rt.tD ?_ | refine Rt.tM ?_ | refine Rt.tC ?_ | refine Rt.tN ?_ | refine Rt.tA ?_ | refine Rt.tG ?_ | refine Rt.tF ?_ | refine Rt.os ?_ | refine Rt.clS ?_ | refine Rt.jmN ?_ | refine Rt.jbN ?_ | refine Rt.jbE ?_)) | ((with_reducible (first | apply Rt.ld0 | apply Rt.ld1 | apply Rt.ld2 | apply Rt.ld3 | apply Rt.ld4 | apply Rt.ld5)); first | assumption | exact Lc.kp (by assumption) (by assumption)) | ((with_reducible apply Rt.ol); first | assumption | exact cell_kp (by assumption) (by assumption)) | ((with_reducible apply Rt.ckR); focus ((repeat (first | (with_reducible (first | refine Rt.fin ?_ | refine Rt.tL ?_ | refine Rt.tI ?_ | refine Rt.tB ?_ | refine Rt.tS ?_ | refine Rt.tP ?_ | refine Rt.tD ?_ | refine Rt.tM ?_ | refine Rt.tC ?_ | refine Rt.tN ?_ | refine Rt.tA ?_ | refine Rt.tG ?_ | refine Rt.tF ?_ | refine Rt.os ?_ | refine Rt.clS ?_ | refine Rt.jmN ?_ | refine Rt.jbN ?_ | refine Rt.jbE ?_)) | ((with_reducible (first | apply Rt.ld0 | apply Rt.ld1 | apply Rt.ld2 | apply Rt.ld3 | apply Rt.ld4 | apply Rt.ld5)); first | assumption | exact Lc.kp (by assumption) (by assumption)) | ((with_reducible apply Rt.ol); first | assumption | exact cell_kp (by assumption) (by assumption)))); exact Rt.some' rfl))))
      refine Rt.cQ (fun h1 => ?_) fun h1 => Rt.endB (by simp; intro h; subst h; omega) k14
      (repeat (first | (with_reducible (first | refine Rt.fin ?_ | refine Rt.tL ?_ | refine Rt.tI ?_ | refine Rt.tB ?_ | refine Rt.tS ?_ | refine Rt.tP ?_ | refine Rt.tD ?_ | refine Rt.tM ?_ | refine Rt.tC ?_ | refine Rt.tN ?_ | refine Rt.tA ?_ | refine Rt.tG ?_ | refine Rt.tF ?_ | refine Rt.os ?_ | refine Rt.clS ?_ | refine Rt.jmN ?_ | refine Rt.jbN ?_ | refine Rt.jbE ?_)) | ((with_reducible (first | apply Rt.ld0 | apply Rt.ld1 | apply Rt.ld2 | apply Rt.ld3 | apply Rt.ld4 | apply Rt.ld5)); first | assumption | exact Lc.kp (by assumption) (by assumption)) | ((with_reducible apply Rt.ol); first | assumption | exact cell_kp (by assumption) (by assumption)) | ((with_reducible apply Rt.ckR); focus ((repeat (first | (with_reducible (first | refine Rt.fin ?_ | refine Rt.tL ?_ | refine Rt.tI ?_ | refine Rt.tB ?_ | refine Rt.tS ?_ | refine Rt.tP ?_ | refine Rt.tD ?_ | refine Rt.tM ?_ | refine Rt.tC ?_ | refine Rt.tN ?_ | refine Rt.tA ?_ | refine Rt.tG ?_ | refine Rt.tF ?_ | refine Rt.os ?_ | refine Rt.clS ?_ | refine Rt.jmN ?_ | refine Rt.jbN ?_ | refine Rt.jbE ?_)) | ((with_reducible (first | apply Rt.ld0 | apply Rt.ld1 | apply Rt.ld2 | apply Rt.ld3 | apply Rt.ld4 | apply Rt.ld5)); first | assumption | exact Lc.kp (by assumption) (by assumption)) | ((with_reducible apply Rt.ol); first | assumption | exact cell_kp (by assumption) (by assumption)))); exact Rt.some' rfl))))
      refine Rt.cQ (fun h2 => ?_) fun h2 => Rt.endB (by simp; intro h; subst h; omega) k14
      (repeat (first | (with_reducible (first | refine Rt.fin ?_ | refine Rt.tL ?_ | refine Rt.tI ?_ | refine Rt.tB ?_ | refine Rt.tS ?_ | refine Rt.tP ?_ | refine Rt.tD ?_ | refine Rt.tM ?_ | refine Rt.tC ?_ | refine Rt.tN ?_ | refine Rt.tA ?_ | refine Rt.tG ?_ | refine Rt.tF ?_ | refine Rt.os ?_ | refine Rt.clS ?_ | refine Rt.jmN ?_ | refine Rt.jbN ?_ | refine Rt.jbE ?_)) | ((with_reducible (first | apply Rt.ld0 | apply Rt.ld1 | apply Rt.ld2 | apply Rt.ld3 | apply Rt.ld4 | apply Rt.ld5)); first | assumption | exact Lc.kp (by assumption) (by assumption)) | ((with_reducible apply Rt.ol); first | assumption | exact cell_kp (by assumption) (by assumption)) | ((with_reducible apply Rt.ckR); focus ((repeat (first | (with_reducible (first | refine Rt.fin ?_ | refine Rt.tL ?_ | refine Rt.tI ?_ | refine Rt.tB ?_ | refine Rt.tS ?_ | refine Rt.tP ?_ | refine Rt.tD ?_ | refine Rt.tM ?_ | refine Rt.tC ?_ | refine Rt.tN ?_ | refine Rt.tA ?_ | refine Rt.tG ?_ | refine Rt.tF ?_ | refine Rt.os ?_ | refine Rt.clS ?_ | refine Rt.jmN ?_ | refine Rt.jbN ?_ | refine Rt.jbE ?_)) | ((with_reducible (first | apply Rt.ld0 | apply Rt.ld1 | apply Rt.ld2 | apply Rt.ld3 | apply Rt.ld4 | apply Rt.ld5)); first | assumption | exact Lc.kp (by assumption) (by assumption)) | ((with_reducible apply Rt.ol); first | assumption | exact cell_kp (by assumption) (by assumption)))); exact Rt.some' rfl))))
      refine Rt.endB ?_ k14
      simp only [beq_iff_eq]
      constructor
      · intro h3
        obtain ⟨a1, a2, a3, a4, a5⟩ := x
        obtain ⟨b1, b2, b3, b4, b5⟩ := y
        dsimp only at hb hb2 e1 e2 e3 e1' e2' e3'
        rw [EditD.mk.injEq]
        exact ⟨hb, hb2, by omega, by omega, by omega⟩
      · intro h; subst h; omega
/-! ### Longer and shorter rows -/
theorem good_lim (b : Int) : Par.Good (limP b) := Par.Good.bind Par.Good.num fun n => Par.Good.ite (Par.Good.fail (by decide)) (Par.Good.ret _)
theorem good_txt : Par.Good txtP := Par.Good.bind (good_lim _) fun n => Par.Good.take _
theorem good_run : Par.Good runP := Par.Good.bind Par.Good.num fun _ => Par.Good.bind Par.Good.num fun _ => Par.Good.bind Par.Good.num fun _ => Par.Good.bind good_txt fun _ => Par.Good.bind good_txt fun _ => Par.Good.bind Par.Good.num fun _ => Par.Good.ret _
theorem good_runs : ∀ n : Nat, Par.Good (runsP n)
  | 0 => Par.Good.ret _
  | n + 1 => Par.Good.bind good_run fun o => Par.Good.bind (good_runs n) fun l => Par.Good.ret _
theorem good_nums : ∀ n : Nat, Par.Good (numsP n)
  | 0 => Par.Good.ret _
  | n + 1 => Par.Good.bind Par.Good.num fun o => Par.Good.bind (good_nums n) fun l => Par.Good.ret _
open Classical in
theorem good_edit : Par.Good editP :=
  Par.Good.bind (Par.Good.bind (good_lim _) fun _ => Par.Good.bind (good_runs _) fun _ => Par.Good.bind (good_lim _) fun _ => Par.Good.bind (good_nums _) fun _ => Par.Good.bind Par.Good.num fun _ => Par.Good.bind Par.Good.num fun _ => Par.Good.bind Par.Good.num fun _ => Par.Good.ret _) fun e => Par.Good.ite (Par.Good.ret _) (Par.Good.fail (by decide))
theorem enc_lim {v b : Int} (h0 : 0 ≤ v) (h : v ≤ b) (hb : b < 2 ^ 63) : Enc (limP b) v (enc v.toNat) := by
  have := Enc.bind (g := fun n => if n > b then failP 2 else retP n) (Enc.num (x := v) (by omega)) (by show Enc (if v > b then failP 2 else retP v) v []; rw [if_neg (by omega)]; exact Enc.ret v)
  rw [List.append_nil] at this
  exact this
theorem enc_txt {v : List Int} (h : v.length ≤ 256) : Enc txtP v (enc v.length ++ v) := by
  have h1 := enc_lim (v := (v.length : Int)) (b := 256) (by omega) (by omega) (by decide)
  rw [Int.toNat_natCast] at h1
  refine Enc.bind h1 ?_
  rw [Int.toNat_natCast]
  exact Enc.take rfl
theorem enc_run {x : RunD} (h : rightR x) : Enc runP x (encR x) := by
  obtain ⟨h1, h2, h3, h4, h5, _, h6⟩ := h
  have e : encR x = enc x.file.toNat ++ (enc x.bytes.toNat ++ (enc x.count.toNat ++ ((enc x.first.length ++ x.first) ++ ((enc x.last.length ++ x.last) ++ (enc x.seq.toNat ++ []))))) := by simp [encR]
  rw [e]
  exact Enc.bind (Enc.num (by omega)) (Enc.bind (Enc.num (by omega)) (Enc.bind (Enc.num (by omega)) (Enc.bind (enc_txt (by omega)) (Enc.bind (enc_txt (by omega)) (Enc.bind (Enc.num (by omega)) (Enc.ret _))))))
theorem enc_runs : ∀ {l : List RunD}, (∀ o ∈ l, rightR o) → Enc (runsP l.length) l (encA l)
  | [], _ => Enc.ret _
  | o :: l, h => by
    have e : encA (o :: l) = encR o ++ (encA l ++ []) := by simp [encA]
    rw [e]
    exact Enc.bind (enc_run (h o List.mem_cons_self)) (Enc.bind (enc_runs fun x hx => h x (List.mem_cons_of_mem _ hx)) (Enc.ret _))
theorem enc_nums : ∀ {l : List Int}, (∀ f ∈ l, 0 ≤ f ∧ f < 2 ^ 64) → Enc (numsP l.length) l (encN l)
  | [], _ => Enc.ret _
  | o :: l, h => by
    have e : encN (o :: l) = enc o.toNat ++ (encN l ++ []) := by simp [encN]
    rw [e]
    exact Enc.bind (Enc.num (h o List.mem_cons_self)) (Enc.bind (enc_nums fun x hx => h x (List.mem_cons_of_mem _ hx)) (Enc.ret _))
open Classical in
theorem enc_edit {e : EditD} (h : rightE e) (hs : 0 ≤ e.seq) : Enc editP e (encE e) := by
  have h0 := h
  obtain ⟨h1, h2, h3, h4, h5, ⟨h6, _⟩, h8, _⟩ := h
  have ea := enc_lim (v := (e.add.length : Int)) (b := 100) (by omega) (by omega) (by decide)
  have ed := enc_lim (v := (e.drop.length : Int)) (b := 100) (by omega) (by omega) (by decide)
  rw [Int.toNat_natCast] at ea ed
  have eq : encE e = (enc e.add.length ++ (encA e.add ++ (enc e.drop.length ++ (encN e.drop ++ (enc e.next.toNat ++ (enc e.log.toNat ++ (enc e.seq.toNat ++ []))))))) ++ [] := by simp [encE]
  rw [eq]
  refine Enc.bind (a := e) (Enc.bind ea ?_) (by rw [if_pos h0]; exact Enc.ret _)
  rw [Int.toNat_natCast]
  refine Enc.bind (enc_runs h6) (Enc.bind ed ?_)
  rw [Int.toNat_natCast]
  exact Enc.bind (enc_nums fun f hf => by have := h8 f hf; omega) (Enc.bind (Enc.num (by omega)) (Enc.bind (Enc.num (by omega)) (Enc.bind (Enc.num (by omega)) (Enc.ret _))))
theorem can_lim (b : Int) : Par.Can (limP b) fun x bs => (0 ≤ x ∧ x ≤ b) ∧ bs = enc x.toNat := by
  refine Par.Can.bind (fun n x bs => x = n ∧ n ≤ b ∧ bs = []) Par.Can.num (fun n => ?_) ?_
  · exact Par.Can.ite (Par.Can.fail (by decide) fun _ _ => False) (Par.Can.ret _) (fun _ _ _ h => h.elim) fun hc v bs h => ⟨h.1, by omega, h.2⟩
  · rintro n v p q ⟨h1, rfl⟩ ⟨rfl, h3, rfl⟩
    exact ⟨by omega, by simp⟩
theorem can_txt : Par.Can txtP fun v bs => bs = enc v.length ++ v := by
  refine Par.Can.bind (fun n v bs => bs = v ∧ v.length = n.toNat) (can_lim 256) (fun n => Par.Can.mono (Par.Can.take _) fun a p h => ⟨h.1, h.2.1⟩) ?_
  rintro n v p q ⟨h1, rfl⟩ ⟨rfl, h3⟩
  rw [h3]
theorem can_run : Par.Can runP fun x bs => bs = encR x := by
  refine Par.Can.bind (fun f x bs => enc f.toNat ++ bs = encR x) Par.Can.num (fun f => ?_) fun f x p q h1 h2 => by rw [h1.2]; exact h2
  refine Par.Can.bind (fun b x bs => enc f.toNat ++ (enc b.toNat ++ bs) = encR x) Par.Can.num (fun b => ?_) fun b x p q h1 h2 => by rw [h1.2]; exact h2
  refine Par.Can.bind (fun c x bs => enc f.toNat ++ (enc b.toNat ++ (enc c.toNat ++ bs)) = encR x) Par.Can.num (fun c => ?_) fun c x p q h1 h2 => by rw [h1.2]; exact h2
  refine Par.Can.bind (fun t x bs => enc f.toNat ++ (enc b.toNat ++ (enc c.toNat ++ ((enc t.length ++ t) ++ bs))) = encR x) can_txt (fun t => ?_) fun t x p q h1 h2 => by rw [h1]; exact h2
  refine Par.Can.bind (fun u x bs => enc f.toNat ++ (enc b.toNat ++ (enc c.toNat ++ ((enc t.length ++ t) ++ ((enc u.length ++ u) ++ bs)))) = encR x) can_txt (fun u => ?_) fun u x p q h1 h2 => by rw [h1]; exact h2
  refine Par.Can.bind (fun s x bs => x = ⟨f, b, c, t, u, s⟩ ∧ bs = []) Par.Can.num (fun s => Par.Can.ret _) fun s x p q h1 h2 => ?_
  obtain ⟨rfl, rfl⟩ := h2
  rw [h1.2]
  simp [encR]
theorem can_runs : ∀ n : Nat, Par.Can (runsP n) fun l bs => l.length = n ∧ bs = encA l
  | 0 => Par.Can.mono (Par.Can.ret _) fun l p ⟨h1, h2⟩ => by subst h1 h2; exact ⟨rfl, rfl⟩
  | n + 1 => by
    refine Par.Can.bind (fun o l bs => ∃ t, l = o :: t ∧ t.length = n ∧ bs = encA t) can_run (fun o => ?_) ?_
    · refine Par.Can.bind (fun t l bs => l = o :: t ∧ bs = []) (can_runs n) (fun t => Par.Can.ret _) ?_
      rintro t l p q ⟨h1, h2⟩ ⟨rfl, rfl⟩
      exact ⟨t, rfl, h1, by simp [h2]⟩
    · rintro o l p q rfl ⟨t, rfl, h3, rfl⟩
      exact ⟨by simp [h3], by simp [encA]⟩
theorem can_nums : ∀ n : Nat, Par.Can (numsP n) fun l bs => l.length = n ∧ bs = encN l
  | 0 => Par.Can.mono (Par.Can.ret _) fun l p ⟨h1, h2⟩ => by subst h1 h2; exact ⟨rfl, rfl⟩
  | n + 1 => by
    refine Par.Can.bind (fun o l bs => ∃ t, l = o :: t ∧ t.length = n ∧ bs = encN t) Par.Can.num (fun o => ?_) ?_
    · refine Par.Can.bind (fun t l bs => l = o :: t ∧ bs = []) (can_nums n) (fun t => Par.Can.ret _) ?_
      rintro t l p q ⟨h1, h2⟩ ⟨rfl, rfl⟩
      exact ⟨t, rfl, h1, by simp [h2]⟩
    · rintro o l p q ⟨_, rfl⟩ ⟨t, rfl, h3, rfl⟩
      exact ⟨by simp [h3], by simp [encN]⟩
theorem can_raw : Par.Can rawP fun x bs => bs = encE x := by
  refine Par.Can.bind (fun a x bs => 0 ≤ a → enc a.toNat ++ bs = encE x) (can_lim 100) (fun a => ?_) fun a x p q h1 h2 => by rw [h1.2]; exact h2 h1.1.1
  refine Par.Can.bind (fun l x bs => l.length = a.toNat → 0 ≤ a → enc a.toNat ++ (encA l ++ bs) = encE x) (can_runs _) (fun l => ?_) fun l x p q h1 h2 h3 => by rw [h1.2]; exact h2 h1.1 h3
  refine Par.Can.bind (fun b x bs => 0 ≤ b → l.length = a.toNat → 0 ≤ a → enc a.toNat ++ (encA l ++ (enc b.toNat ++ bs)) = encE x) (can_lim 100) (fun b => ?_) fun b x p q h1 h2 h3 h4 => by rw [h1.2]; exact h2 h1.1.1 h3 h4
  refine Par.Can.bind (fun d x bs => d.length = b.toNat → 0 ≤ b → l.length = a.toNat → 0 ≤ a → enc a.toNat ++ (encA l ++ (enc b.toNat ++ (encN d ++ bs))) = encE x) (can_nums _) (fun d => ?_) fun d x p q h1 h2 h3 h4 h5 => by rw [h1.2]; exact h2 h1.1 h3 h4 h5
  refine Par.Can.bind (fun u x bs => d.length = b.toNat → 0 ≤ b → l.length = a.toNat → 0 ≤ a → enc a.toNat ++ (encA l ++ (enc b.toNat ++ (encN d ++ (enc u.toNat ++ bs)))) = encE x) Par.Can.num (fun u => ?_) fun u x p q h1 h2 => by rw [h1.2]; exact h2
  refine Par.Can.bind (fun v x bs => d.length = b.toNat → 0 ≤ b → l.length = a.toNat → 0 ≤ a → enc a.toNat ++ (encA l ++ (enc b.toNat ++ (encN d ++ (enc u.toNat ++ (enc v.toNat ++ bs))))) = encE x) Par.Can.num (fun v => ?_) fun v x p q h1 h2 => by rw [h1.2]; exact h2
  refine Par.Can.bind (fun s x bs => x = ⟨l, d, u, v, s⟩ ∧ bs = []) Par.Can.num (fun s => Par.Can.ret _) fun s x p q h1 h2 h3 h4 h5 h6 => ?_
  obtain ⟨rfl, rfl⟩ := h2
  rw [h1.2, ← h3, ← h5]
  simp [encE]
open Classical in
theorem can_edit : Par.Can editP fun x bs => bs = encE x ∧ rightE x := by
  refine Par.Can.bind (fun r x bs => x = r ∧ bs = [] ∧ rightE r) can_raw (fun r => ?_) ?_
  · exact Par.Can.ite (Par.Can.ret _) (Par.Can.fail (by decide) fun _ _ => False) (fun hc v bs h => ⟨h.1, h.2, hc⟩) fun _ _ _ h => h.elim
  · rintro r x p q rfl ⟨rfl, rfl, h⟩
    exact ⟨by simp, h⟩
end
end Go.Proofs.Ytdnbpgakmbamoaa.Ed
