/- Edits: what is written is read; torn rows. -/
import Derived.Test.YtdnbpgakmbamoaaE14
namespace Go.Proofs.Ytdnbpgakmbamoaa.Ed
open Go Big Go.RowKit Go.IntWalk Cm Var Low Par
set_option linter.unusedVariables false
set_option linter.unusedSimpArgs false
set_option linter.unusedSectionVars false
section
variable {α : Type} {Q : α → Prop} {n : Nat} {w w0 : World} {A B C D : Option Addr} {l c m d p i q r : Nat} {k s s' : Int} {xs ys : List RunD} {bs zs : List Int} {e x y : EditD} {en el es : Int}
theorem LBytes_spec (hx : EditV w A l c B m d en el es e) (hn : 2 ^ 63 < n) : Rt (butterylaw16_EditBytes n [ev A l c B m d en el es] w) (RB True w) := by
  have h1 := hx.add.len
  have h2 := hx.drop.len
  have hsq := u64b hx.rs
  have hes := hx.es
  rw [butterylaw16_EditBytes_eq]
  refine Rt.fin (Rt.al fun w1 l1 k1 s1 => Rt.cBt (alive_spec (by omega)) trivial fun w2 k2 => ?_)
  have k12 := k1.tr k2
  have l2 := l1.kp k2
  (repeat (first | (with_reducible (first | refine Rt.fin ?_ | refine Rt.tL ?_ | refine Rt.tI ?_ | refine Rt.tB ?_ | refine Rt.tS ?_ | refine Rt.tP ?_ | refine Rt.tD ?_ | refine Rt.tM ?_ | refine Rt.tC ?_ | refine Rt.tN ?_ | refine Rt.tA ?_ | refine Rt.tG ?_ | refine Rt.tF ?_ | refine Rt.os ?_ | refine Rt.clS ?_ | refine Rt.jmN ?_ | refine Rt.jbN ?_ | refine Rt.jbE ?_)) | ((with_reducible (first | apply Rt.ld0 | apply Rt.ld1 | apply Rt.ld2 | apply Rt.ld3 | apply Rt.ld4 | apply Rt.ld5)); first | assumption | exact Lc.kp (by assumption) (by assumption)) | ((with_reducible apply Rt.ol); first | assumption | exact cell_kp (by assumption) (by assumption)) | ((with_reducible apply Rt.ckR); focus ((repeat (first | (with_reducible (first | refine Rt.fin ?_ | refine Rt.tL ?_ | refine Rt.tI ?_ | refine Rt.tB ?_ | refine Rt.tS ?_ | refine Rt.tP ?_ | refine Rt.tD ?_ | refine Rt.tM ?_ | refine Rt.tC ?_ | refine Rt.tN ?_ | refine Rt.tA ?_ | refine Rt.tG ?_ | refine Rt.tF ?_ | refine Rt.os ?_ | refine Rt.clS ?_ | refine Rt.jmN ?_ | refine Rt.jbN ?_ | refine Rt.jbE ?_)) | ((with_reducible (first | apply Rt.ld0 | apply Rt.ld1 | apply Rt.ld2 | apply Rt.ld3 | apply Rt.ld4 | apply Rt.ld5)); first | assumption | exact Lc.kp (by assumption) (by assumption)) | ((with_reducible apply Rt.ol); first | assumption | exact cell_kp (by assumption) (by assumption)))); exact Rt.some' rfl))))
  refine Rt.cBo (Big_spec (hx.kp k12) hn) fun b w3 hb k3 => Rt.cF rfl ?_
  have k13 := k12.tr k3
  have l3 := l2.kp k3
  cases b with
  | true => exact Rt.cT rfl (Rt.endB (by simp) k13)
  | false =>
    have nb : ¬ bigE e := fun h => by simpa using hb.2 h
    have la : l ≤ 110 ∧ m ≤ 110 := by unfold bigE at nb; omega
    refine Rt.cF rfl ?_
    (repeat (first | (with_reducible (first | refine Rt.fin ?_ | refine Rt.tL ?_ | refine Rt.tI ?_ | refine Rt.tB ?_ | refine Rt.tS ?_ | refine Rt.tP ?_ | refine Rt.tD ?_ | refine Rt.tM ?_ | refine Rt.tC ?_ | refine Rt.tN ?_ | refine Rt.tA ?_ | refine Rt.tG ?_ | refine Rt.tF ?_ | refine Rt.os ?_ | refine Rt.clS ?_ | refine Rt.jmN ?_ | refine Rt.jbN ?_ | refine Rt.jbE ?_)) | ((with_reducible (first | apply Rt.ld0 | apply Rt.ld1 | apply Rt.ld2 | apply Rt.ld3 | apply Rt.ld4 | apply Rt.ld5)); first | assumption | exact Lc.kp (by assumption) (by assumption)) | ((with_reducible apply Rt.ol); first | assumption | exact cell_kp (by assumption) (by assumption)) | ((with_reducible apply Rt.ckR); focus ((repeat (first | (with_reducible (first | refine Rt.fin ?_ | refine Rt.tL ?_ | refine Rt.tI ?_ | refine Rt.tB ?_ | refine Rt.tS ?_ | refine Rt.tP ?_ | refine Rt.tD ?_ | refine Rt.tM ?_ | refine Rt.tC ?_ | refine Rt.tN ?_ | refine Rt.tA ?_ | refine Rt.tG ?_ | refine Rt.tF ?_ | refine Rt.os ?_ | refine Rt.clS ?_ | refine Rt.jmN ?_ | refine Rt.jbN ?_ | refine Rt.jbE ?_)) | ((with_reducible (first | apply Rt.ld0 | apply Rt.ld1 | apply Rt.ld2 | apply Rt.ld3 | apply Rt.ld4 | apply Rt.ld5)); first | assumption | exact Lc.kp (by assumption) (by assumption)) | ((with_reducible apply Rt.ol); first | assumption | exact cell_kp (by assumption) (by assumption)))); exact Rt.some' rfl))))
    refine Rt.cO (Bytes_spec (hx.kp k13) (by omega)) fun E g w4 o4 k4 => ?_
    have k14 := k13.tr k4
    have l4 := l3.kp k4
    (repeat (first | (with_reducible (first | refine Rt.fin ?_ | refine Rt.tL ?_ | refine Rt.tI ?_ | refine Rt.tB ?_ | refine Rt.tS ?_ | refine Rt.tP ?_ | refine Rt.tD ?_ | refine Rt.tM ?_ | refine Rt.tC ?_ | refine Rt.tN ?_ | refine Rt.tA ?_ | refine Rt.tG ?_ | refine Rt.tF ?_ | refine Rt.os ?_ | refine Rt.clS ?_ | refine Rt.jmN ?_ | refine Rt.jbN ?_ | refine Rt.jbE ?_)) | ((with_reducible (first | apply Rt.ld0 | apply Rt.ld1 | apply Rt.ld2 | apply Rt.ld3 | apply Rt.ld4 | apply Rt.ld5)); first | assumption | exact Lc.kp (by assumption) (by assumption)) | ((with_reducible apply Rt.ol); first | assumption | exact cell_kp (by assumption) (by assumption)) | ((with_reducible apply Rt.ckR); focus ((repeat (first | (with_reducible (first | refine Rt.fin ?_ | refine Rt.tL ?_ | refine Rt.tI ?_ | refine Rt.tB ?_ | refine Rt.tS ?_ | refine Rt.tP ?_ | refine Rt.tD ?_ | refine Rt.tM ?_ | refine Rt.tC ?_ | refine Rt.tN ?_ | refine Rt.tA ?_ | refine Rt.tG ?_ | refine Rt.tF ?_ | refine Rt.os ?_ | refine Rt.clS ?_ | refine Rt.jmN ?_ | refine Rt.jbN ?_ | refine Rt.jbE ?_)) | ((with_reducible (first | apply Rt.ld0 | apply Rt.ld1 | apply Rt.ld2 | apply Rt.ld3 | apply Rt.ld4 | apply Rt.ld5)); first | assumption | exact Lc.kp (by assumption) (by assumption)) | ((with_reducible apply Rt.ol); first | assumption | exact cell_kp (by assumption) (by assumption)))); exact Rt.some' rfl))))
    refine Rt.cBo (RRight_spec (hx.kp k14) (by omega)) fun b w5 hb5 k5 => ?_
    have k15 := k14.tr k5
    have l5 := (l4.kp k5).kp (Kp.rfl' w5).dr
    (repeat (first | (with_reducible (first | refine Rt.fin ?_ | refine Rt.tL ?_ | refine Rt.tI ?_ | refine Rt.tB ?_ | refine Rt.tS ?_ | refine Rt.tP ?_ | refine Rt.tD ?_ | refine Rt.tM ?_ | refine Rt.tC ?_ | refine Rt.tN ?_ | refine Rt.tA ?_ | refine Rt.tG ?_ | refine Rt.tF ?_ | refine Rt.os ?_ | refine Rt.clS ?_ | refine Rt.jmN ?_ | refine Rt.jbN ?_ | refine Rt.jbE ?_)) | ((with_reducible (first | apply Rt.ld0 | apply Rt.ld1 | apply Rt.ld2 | apply Rt.ld3 | apply Rt.ld4 | apply Rt.ld5)); first | assumption | exact Lc.kp (by assumption) (by assumption)) | ((with_reducible apply Rt.ol); first | assumption | exact cell_kp (by assumption) (by assumption)) | ((with_reducible apply Rt.ckR); focus ((repeat (first | (with_reducible (first | refine Rt.fin ?_ | refine Rt.tL ?_ | refine Rt.tI ?_ | refine Rt.tB ?_ | refine Rt.tS ?_ | refine Rt.tP ?_ | refine Rt.tD ?_ | refine Rt.tM ?_ | refine Rt.tC ?_ | refine Rt.tN ?_ | refine Rt.tA ?_ | refine Rt.tG ?_ | refine Rt.tF ?_ | refine Rt.os ?_ | refine Rt.clS ?_ | refine Rt.jmN ?_ | refine Rt.jbN ?_ | refine Rt.jbE ?_)) | ((with_reducible (first | apply Rt.ld0 | apply Rt.ld1 | apply Rt.ld2 | apply Rt.ld3 | apply Rt.ld4 | apply Rt.ld5)); first | assumption | exact Lc.kp (by assumption) (by assumption)) | ((with_reducible apply Rt.ol); first | assumption | exact cell_kp (by assumption) (by assumption)))); exact Rt.some' rfl))))
    refine Rt.cBo (Right_spec (hx.kp k15.dr) (by omega)) fun b' w6 hb6 k6 => ?_
    have k16 := k15.dr.tr k6
    have l6 := l5.kp k6
    have hbb : b' = b := by rw [Bool.eq_iff_iff, hb5, hb6]
    subst hbb
    have hbw := bytesE_wf hx
    have hbl := bytesE_len (e := e)
    have k46 := k5.dr.tr k6
    refine Rt.cF (by simp) (Rt.str ((o4.kp k46).bv hbw) ?_)
    (repeat (first | (with_reducible (first | refine Rt.fin ?_ | refine Rt.tL ?_ | refine Rt.tI ?_ | refine Rt.tB ?_ | refine Rt.tS ?_ | refine Rt.tP ?_ | refine Rt.tD ?_ | refine Rt.tM ?_ | refine Rt.tC ?_ | refine Rt.tN ?_ | refine Rt.tA ?_ | refine Rt.tG ?_ | refine Rt.tF ?_ | refine Rt.os ?_ | refine Rt.clS ?_ | refine Rt.jmN ?_ | refine Rt.jbN ?_ | refine Rt.jbE ?_)) | ((with_reducible (first | apply Rt.ld0 | apply Rt.ld1 | apply Rt.ld2 | apply Rt.ld3 | apply Rt.ld4 | apply Rt.ld5)); first | assumption | exact Lc.kp (by assumption) (by assumption)) | ((with_reducible apply Rt.ol); first | assumption | exact cell_kp (by assumption) (by assumption)) | ((with_reducible apply Rt.ckR); focus ((repeat (first | (with_reducible (first | refine Rt.fin ?_ | refine Rt.tL ?_ | refine Rt.tI ?_ | refine Rt.tB ?_ | refine Rt.tS ?_ | refine Rt.tP ?_ | refine Rt.tD ?_ | refine Rt.tM ?_ | refine Rt.tC ?_ | refine Rt.tN ?_ | refine Rt.tA ?_ | refine Rt.tG ?_ | refine Rt.tF ?_ | refine Rt.os ?_ | refine Rt.clS ?_ | refine Rt.jmN ?_ | refine Rt.jbN ?_ | refine Rt.jbE ?_)) | ((with_reducible (first | apply Rt.ld0 | apply Rt.ld1 | apply Rt.ld2 | apply Rt.ld3 | apply Rt.ld4 | apply Rt.ld5)); first | assumption | exact Lc.kp (by assumption) (by assumption)) | ((with_reducible apply Rt.ol); first | assumption | exact cell_kp (by assumption) (by assumption)))); exact Rt.some' rfl))))
    refine Rt.cO (REditBytes_spec (hx.kp k16) (by omega)) fun F f w7 o7 k7 => ?_
    have k17 := k16.tr k7
    have l7 := l6.kp k7
    have k47 := k46.tr k7
    have b7 := (o4.kp k47).bv hbw
    refine Rt.ckR (Rt.str b7 (Rt.some' rfl)) (Rt.str (o7.bv hbw) (Rt.cF (by simp) ?_))
    refine Rt.cEd (Read_spec b7 (by omega) (by omega)) fun A2 l2 c2 B2 m2 d2 w8 v8 k8 => ?_
    refine Rt.al5 fun w9 x9 k9 s9 => ?_
    have k89 := k8.tr k9
    have k19 := k17.tr k89
    have l9 := l7.kp k89
    cases b' with
    | false =>
      have hnr : ¬ rightE e := fun h => by simpa using hb6.2 h
      have hem : bytesE e = [] := by unfold bytesE; rw [if_neg hnr]
      refine Rt.cT rfl (Rt.cT (by rw [hem]; rfl) (Rt.endB (by simp) k19))
    | true =>
      have hr := hb6.1 rfl
      have hem : bytesE e = encE e := by unfold bytesE; rw [if_pos hr]
      have hrd : allP editP (bytesE e) = (0, e) := by rw [hem]; exact allP_enc (enc_edit hr (by omega))
      rw [hrd] at v8 x9 ⊢
      refine Rt.cF rfl (Rt.cT rfl ?_)
      rw [num_spec]
      (repeat (first | (with_reducible (first | refine Rt.fin ?_ | refine Rt.tL ?_ | refine Rt.tI ?_ | refine Rt.tB ?_ | refine Rt.tS ?_ | refine Rt.tP ?_ | refine Rt.tD ?_ | refine Rt.tM ?_ | refine Rt.tC ?_ | refine Rt.tN ?_ | refine Rt.tA ?_ | refine Rt.tG ?_ | refine Rt.tF ?_ | refine Rt.os ?_ | refine Rt.clS ?_ | refine Rt.jmN ?_ | refine Rt.jbN ?_ | refine Rt.jbE ?_)) | ((with_reducible (first | apply Rt.ld0 | apply Rt.ld1 | apply Rt.ld2 | apply Rt.ld3 | apply Rt.ld4 | apply Rt.ld5)); first | assumption | exact Lc.kp (by assumption) (by assumption)) | ((with_reducible apply Rt.ol); first | assumption | exact cell_kp (by assumption) (by assumption)) | ((with_reducible apply Rt.ckR); focus ((repeat (first | (with_reducible (first | refine Rt.fin ?_ | refine Rt.tL ?_ | refine Rt.tI ?_ | refine Rt.tB ?_ | refine Rt.tS ?_ | refine Rt.tP ?_ | refine Rt.tD ?_ | refine Rt.tM ?_ | refine Rt.tC ?_ | refine Rt.tN ?_ | refine Rt.tA ?_ | refine Rt.tG ?_ | refine Rt.tF ?_ | refine Rt.os ?_ | refine Rt.clS ?_ | refine Rt.jmN ?_ | refine Rt.jbN ?_ | refine Rt.jbE ?_)) | ((with_reducible (first | apply Rt.ld0 | apply Rt.ld1 | apply Rt.ld2 | apply Rt.ld3 | apply Rt.ld4 | apply Rt.ld5)); first | assumption | exact Lc.kp (by assumption) (by assumption)) | ((with_reducible apply Rt.ol); first | assumption | exact cell_kp (by assumption) (by assumption)))); exact Rt.some' rfl))))
      refine Rt.cT rfl ?_
      (repeat (first | (with_reducible (first | refine Rt.fin ?_ | refine Rt.tL ?_ | refine Rt.tI ?_ | refine Rt.tB ?_ | refine Rt.tS ?_ | refine Rt.tP ?_ | refine Rt.tD ?_ | refine Rt.tM ?_ | refine Rt.tC ?_ | refine Rt.tN ?_ | refine Rt.tA ?_ | refine Rt.tG ?_ | refine Rt.tF ?_ | refine Rt.os ?_ | refine Rt.clS ?_ | refine Rt.jmN ?_ | refine Rt.jbN ?_ | refine Rt.jbE ?_)) | ((with_reducible (first | apply Rt.ld0 | apply Rt.ld1 | apply Rt.ld2 | apply Rt.ld3 | apply Rt.ld4 | apply Rt.ld5)); first | assumption | exact Lc.kp (by assumption) (by assumption)) | ((with_reducible apply Rt.ol); first | assumption | exact cell_kp (by assumption) (by assumption)) | ((with_reducible apply Rt.ckR); focus ((repeat (first | (with_reducible (first | refine Rt.fin ?_ | refine Rt.tL ?_ | refine Rt.tI ?_ | refine Rt.tB ?_ | refine Rt.tS ?_ | refine Rt.tP ?_ | refine Rt.tD ?_ | refine Rt.tM ?_ | refine Rt.tC ?_ | refine Rt.tN ?_ | refine Rt.tA ?_ | refine Rt.tG ?_ | refine Rt.tF ?_ | refine Rt.os ?_ | refine Rt.clS ?_ | refine Rt.jmN ?_ | refine Rt.jbN ?_ | refine Rt.jbE ?_)) | ((with_reducible (first | apply Rt.ld0 | apply Rt.ld1 | apply Rt.ld2 | apply Rt.ld3 | apply Rt.ld4 | apply Rt.ld5)); first | assumption | exact Lc.kp (by assumption) (by assumption)) | ((with_reducible apply Rt.ol); first | assumption | exact cell_kp (by assumption) (by assumption)))); exact Rt.some' rfl))))
      have e1 : e.add.length = _ := v8.add.len
      have e2 : e.drop.length = _ := v8.drop.len
      refine Rt.cBt (SameEdit_spec (v8.kp k9) (hx.kp k19) (by omega) (by omega) (by omega) (by omega)) rfl fun w10 k10 => ?_
      exact Rt.endB (by simp) (k19.tr k10)
theorem LTorn_spec (hx : EditV w A l c B m d en el es e) {off : Int} {M : Option Addr} {ml mc : Nat} (hm : Bv .u8 w M ml mc bs) (ho : (Lit.int .i64 off).wf = true) (hn : 2 ^ 63 < n) : Rt (butterylaw16_EditTorn n [ev A l c B m d en el es, .int .i64 off, .slice M ml mc] w) (RB True w) := by
  obtain ⟨t, hT⟩ := Low.slV
  have h1 := hx.add.len
  have h2 := hx.drop.len
  have hml := hm.len
  have hsq := u64b hx.rs
  have hes := hx.es
  rw [butterylaw16_EditTorn_eq]
  refine Rt.fin (Rt.al fun w1 l1 k1 s1 => Rt.cBt (alive_spec (by omega)) trivial fun w2 k2 => ?_)
  have k12 := k1.tr k2
  have l2 := l1.kp k2
  (repeat (first | (with_reducible (first | refine Rt.fin ?_ | refine Rt.tL ?_ | refine Rt.tI ?_ | refine Rt.tB ?_ | refine Rt.tS ?_ | refine Rt.tP ?_ | refine Rt.tD ?_ | refine Rt.tM ?_ | refine Rt.tC ?_ | refine Rt.tN ?_ | refine Rt.tA ?_ | refine Rt.tG ?_ | refine Rt.tF ?_ | refine Rt.os ?_ | refine Rt.clS ?_ | refine Rt.jmN ?_ | refine Rt.jbN ?_ | refine Rt.jbE ?_)) | ((with_reducible (first | apply Rt.ld0 | apply Rt.ld1 | apply Rt.ld2 | apply Rt.ld3 | apply Rt.ld4 | apply Rt.ld5)); first | assumption | exact Lc.kp (by assumption) (by assumption)) | ((with_reducible apply Rt.ol); first | assumption | exact cell_kp (by assumption) (by assumption)) | ((with_reducible apply Rt.ckR); focus ((repeat (first | (with_reducible (first | refine Rt.fin ?_ | refine Rt.tL ?_ | refine Rt.tI ?_ | refine Rt.tB ?_ | refine Rt.tS ?_ | refine Rt.tP ?_ | refine Rt.tD ?_ | refine Rt.tM ?_ | refine Rt.tC ?_ | refine Rt.tN ?_ | refine Rt.tA ?_ | refine Rt.tG ?_ | refine Rt.tF ?_ | refine Rt.os ?_ | refine Rt.clS ?_ | refine Rt.jmN ?_ | refine Rt.jbN ?_ | refine Rt.jbE ?_)) | ((with_reducible (first | apply Rt.ld0 | apply Rt.ld1 | apply Rt.ld2 | apply Rt.ld3 | apply Rt.ld4 | apply Rt.ld5)); first | assumption | exact Lc.kp (by assumption) (by assumption)) | ((with_reducible apply Rt.ol); first | assumption | exact cell_kp (by assumption) (by assumption)))); exact Rt.some' rfl))))
  refine Rt.cBo (Big_spec (hx.kp k12) hn) fun b w3 hb k3 => ?_
  have k13 := k12.tr k3
  have l3 := l2.kp k3
  (repeat (first | (with_reducible (first | refine Rt.fin ?_ | refine Rt.tL ?_ | refine Rt.tI ?_ | refine Rt.tB ?_ | refine Rt.tS ?_ | refine Rt.tP ?_ | refine Rt.tD ?_ | refine Rt.tM ?_ | refine Rt.tC ?_ | refine Rt.tN ?_ | refine Rt.tA ?_ | refine Rt.tG ?_ | refine Rt.tF ?_ | refine Rt.os ?_ | refine Rt.clS ?_ | refine Rt.jmN ?_ | refine Rt.jbN ?_ | refine Rt.jbE ?_)) | ((with_reducible (first | apply Rt.ld0 | apply Rt.ld1 | apply Rt.ld2 | apply Rt.ld3 | apply Rt.ld4 | apply Rt.ld5)); first | assumption | exact Lc.kp (by assumption) (by assumption)) | ((with_reducible apply Rt.ol); first | assumption | exact cell_kp (by assumption) (by assumption)) | ((with_reducible apply Rt.ckR); focus ((repeat (first | (with_reducible (first | refine Rt.fin ?_ | refine Rt.tL ?_ | refine Rt.tI ?_ | refine Rt.tB ?_ | refine Rt.tS ?_ | refine Rt.tP ?_ | refine Rt.tD ?_ | refine Rt.tM ?_ | refine Rt.tC ?_ | refine Rt.tN ?_ | refine Rt.tA ?_ | refine Rt.tG ?_ | refine Rt.tF ?_ | refine Rt.os ?_ | refine Rt.clS ?_ | refine Rt.jmN ?_ | refine Rt.jbN ?_ | refine Rt.jbE ?_)) | ((with_reducible (first | apply Rt.ld0 | apply Rt.ld1 | apply Rt.ld2 | apply Rt.ld3 | apply Rt.ld4 | apply Rt.ld5)); first | assumption | exact Lc.kp (by assumption) (by assumption)) | ((with_reducible apply Rt.ol); first | assumption | exact cell_kp (by assumption) (by assumption)))); exact Rt.some' rfl))))
  refine Rt.cO (REditBytes_spec (hx.kp k13) (by omega)) fun E g w5 o5 b5 => Rt.cF rfl ?_
  have k5 := k13.tr b5
  cases b with
  | true => exact Rt.cT rfl (Rt.endB (by simp) k5)
  | false =>
    have hbw := bytesE_wf hx
    have hbl := bytesE_len (e := e)
    refine Rt.cF rfl (Rt.cD (fun h => Rt.endB (by simp) k5) fun h0 => Rt.cD (fun h => Rt.endB (by simp) k5) fun h3 => Rt.cD (fun h => Rt.endB (by simp) k5) fun h4 => Rt.cD (fun h => Rt.endB (by simp) k5) fun h5 => ?_)
    have hr : rightE e := bytesE_pos.1 (by omega)
    have hem : bytesE e = encE e := by unfold bytesE; rw [if_pos hr]
    have henc := enc_edit hr (by omega)
    rw [← hem] at henc
    generalize bytesE e = bb at *
    have hpos : 0 < bb.length := by omega
    refine Rt.iF (by omega) ?_
    have hmod : Int.tmod off (bb.length : Int) = off % (bb.length : Int) := Int.tmod_eq_emod_of_nonneg (by omega)
    have hm1 := Int.emod_nonneg off (b := (bb.length : Int)) (by omega)
    have hm2 := Int.emod_lt_of_pos off (b := (bb.length : Int)) (by omega)
    rw [hmod]
    have b5v := o5.bv hbw
    refine Rt.cut b5v (by omega) hm1 (by omega) fun D hD => ?_
    rw [show Int.toNat 0 = 0 from rfl, Nat.sub_zero, Nat.sub_zero, List.drop_zero] at hD
    rw [show Int.toNat 0 = 0 from rfl, Nat.sub_zero, Nat.sub_zero]
    have hcut : (allP editP (bb.take (off % (bb.length : Int)).toNat)).1 = 4 := allP_cut good_edit henc (by omega)
    refine Rt.cEd (Read_spec hD (by omega) (by omega)) fun A2 l2 c2 B2 m2 d2 w6 v6 k6 => ?_
    rw [hcut]
    refine Rt.al5 fun w7 l7 k7 _ => ?_
    have b57 := k6.tr k7
    refine Rt.app0 hT (b5v.kp b57).sl b5v.nil (by omega) fun G q w8 o8 k8 => ?_
    (repeat (first | (with_reducible (first | refine Rt.fin ?_ | refine Rt.tL ?_ | refine Rt.tI ?_ | refine Rt.tB ?_ | refine Rt.tS ?_ | refine Rt.tP ?_ | refine Rt.tD ?_ | refine Rt.tM ?_ | refine Rt.tC ?_ | refine Rt.tN ?_ | refine Rt.tA ?_ | refine Rt.tG ?_ | refine Rt.tF ?_ | refine Rt.os ?_ | refine Rt.clS ?_ | refine Rt.jmN ?_ | refine Rt.jbN ?_ | refine Rt.jbE ?_)) | ((with_reducible (first | apply Rt.ld0 | apply Rt.ld1 | apply Rt.ld2 | apply Rt.ld3 | apply Rt.ld4 | apply Rt.ld5)); first | assumption | exact Lc.kp (by assumption) (by assumption)) | ((with_reducible apply Rt.ol); first | assumption | exact cell_kp (by assumption) (by assumption)) | ((with_reducible apply Rt.ckR); focus ((repeat (first | (with_reducible (first | refine Rt.fin ?_ | refine Rt.tL ?_ | refine Rt.tI ?_ | refine Rt.tB ?_ | refine Rt.tS ?_ | refine Rt.tP ?_ | refine Rt.tD ?_ | refine Rt.tM ?_ | refine Rt.tC ?_ | refine Rt.tN ?_ | refine Rt.tA ?_ | refine Rt.tG ?_ | refine Rt.tF ?_ | refine Rt.os ?_ | refine Rt.clS ?_ | refine Rt.jmN ?_ | refine Rt.jbN ?_ | refine Rt.jbE ?_)) | ((with_reducible (first | apply Rt.ld0 | apply Rt.ld1 | apply Rt.ld2 | apply Rt.ld3 | apply Rt.ld4 | apply Rt.ld5)); first | assumption | exact Lc.kp (by assumption) (by assumption)) | ((with_reducible apply Rt.ol); first | assumption | exact cell_kp (by assumption) (by assumption)))); exact Rt.some' rfl))))
    have k8' := (k5.tr b57).tr k8
    refine Rt.appO hT o8 (hm.kp k8').sl hm.nil (by omega) k8.size fun H r w9 o9 _ g9 => ?_
    (repeat (first | (with_reducible (first | refine Rt.fin ?_ | refine Rt.tL ?_ | refine Rt.tI ?_ | refine Rt.tB ?_ | refine Rt.tS ?_ | refine Rt.tP ?_ | refine Rt.tD ?_ | refine Rt.tM ?_ | refine Rt.tC ?_ | refine Rt.tN ?_ | refine Rt.tA ?_ | refine Rt.tG ?_ | refine Rt.tF ?_ | refine Rt.os ?_ | refine Rt.clS ?_ | refine Rt.jmN ?_ | refine Rt.jbN ?_ | refine Rt.jbE ?_)) | ((with_reducible (first | apply Rt.ld0 | apply Rt.ld1 | apply Rt.ld2 | apply Rt.ld3 | apply Rt.ld4 | apply Rt.ld5)); first | assumption | exact Lc.kp (by assumption) (by assumption)) | ((with_reducible apply Rt.ol); first | assumption | exact cell_kp (by assumption) (by assumption)) | ((with_reducible apply Rt.ckR); focus ((repeat (first | (with_reducible (first | refine Rt.fin ?_ | refine Rt.tL ?_ | refine Rt.tI ?_ | refine Rt.tB ?_ | refine Rt.tS ?_ | refine Rt.tP ?_ | refine Rt.tD ?_ | refine Rt.tM ?_ | refine Rt.tC ?_ | refine Rt.tN ?_ | refine Rt.tA ?_ | refine Rt.tG ?_ | refine Rt.tF ?_ | refine Rt.os ?_ | refine Rt.clS ?_ | refine Rt.jmN ?_ | refine Rt.jbN ?_ | refine Rt.jbE ?_)) | ((with_reducible (first | apply Rt.ld0 | apply Rt.ld1 | apply Rt.ld2 | apply Rt.ld3 | apply Rt.ld4 | apply Rt.ld5)); first | assumption | exact Lc.kp (by assumption) (by assumption)) | ((with_reducible apply Rt.ol); first | assumption | exact cell_kp (by assumption) (by assumption)))); exact Rt.some' rfl))))
    have k9 : Kp w w9 := k8'.tx g9 fun j hj => by have := (o8.lt _ hj).1; have := (k5.tr b57).size; omega
    have hb9 : ∀ z ∈ bb ++ bs, (Lit.int .u8 z).wf = true := fun z hz => (List.mem_append.1 hz).elim (hbw z) (hm.rng z)
    have hmore : (allP editP (bb ++ bs)).1 = 2 := allP_more henc (fun h => by rw [h] at hml; simp at hml; omega)
    refine Rt.cEd (Read_spec (o9.bv hb9) (by omega) (by omega)) fun A3 l3 c3 B3 m3 d3 w10 v10 k10 => ?_
    rw [hmore]
    refine Rt.al5 fun w11 l11 k11 _ => ?_
    rw [num_spec]
    (repeat (first | (with_reducible (first | refine Rt.fin ?_ | refine Rt.tL ?_ | refine Rt.tI ?_ | refine Rt.tB ?_ | refine Rt.tS ?_ | refine Rt.tP ?_ | refine Rt.tD ?_ | refine Rt.tM ?_ | refine Rt.tC ?_ | refine Rt.tN ?_ | refine Rt.tA ?_ | refine Rt.tG ?_ | refine Rt.tF ?_ | refine Rt.os ?_ | refine Rt.clS ?_ | refine Rt.jmN ?_ | refine Rt.jbN ?_ | refine Rt.jbE ?_)) | ((with_reducible (first | apply Rt.ld0 | apply Rt.ld1 | apply Rt.ld2 | apply Rt.ld3 | apply Rt.ld4 | apply Rt.ld5)); first | assumption | exact Lc.kp (by assumption) (by assumption)) | ((with_reducible apply Rt.ol); first | assumption | exact cell_kp (by assumption) (by assumption)) | ((with_reducible apply Rt.ckR); focus ((repeat (first | (with_reducible (first | refine Rt.fin ?_ | refine Rt.tL ?_ | refine Rt.tI ?_ | refine Rt.tB ?_ | refine Rt.tS ?_ | refine Rt.tP ?_ | refine Rt.tD ?_ | refine Rt.tM ?_ | refine Rt.tC ?_ | refine Rt.tN ?_ | refine Rt.tA ?_ | refine Rt.tG ?_ | refine Rt.tF ?_ | refine Rt.os ?_ | refine Rt.clS ?_ | refine Rt.jmN ?_ | refine Rt.jbN ?_ | refine Rt.jbE ?_)) | ((with_reducible (first | apply Rt.ld0 | apply Rt.ld1 | apply Rt.ld2 | apply Rt.ld3 | apply Rt.ld4 | apply Rt.ld5)); first | assumption | exact Lc.kp (by assumption) (by assumption)) | ((with_reducible apply Rt.ol); first | assumption | exact cell_kp (by assumption) (by assumption)))); exact Rt.some' rfl))))
    refine Rt.cT rfl ?_
    rw [num_spec]
    (repeat (first | (with_reducible (first | refine Rt.fin ?_ | refine Rt.tL ?_ | refine Rt.tI ?_ | refine Rt.tB ?_ | refine Rt.tS ?_ | refine Rt.tP ?_ | refine Rt.tD ?_ | refine Rt.tM ?_ | refine Rt.tC ?_ | refine Rt.tN ?_ | refine Rt.tA ?_ | refine Rt.tG ?_ | refine Rt.tF ?_ | refine Rt.os ?_ | refine Rt.clS ?_ | refine Rt.jmN ?_ | refine Rt.jbN ?_ | refine Rt.jbE ?_)) | ((with_reducible (first | apply Rt.ld0 | apply Rt.ld1 | apply Rt.ld2 | apply Rt.ld3 | apply Rt.ld4 | apply Rt.ld5)); first | assumption | exact Lc.kp (by assumption) (by assumption)) | ((with_reducible apply Rt.ol); first | assumption | exact cell_kp (by assumption) (by assumption)) | ((with_reducible apply Rt.ckR); focus ((repeat (first | (with_reducible (first | refine Rt.fin ?_ | refine Rt.tL ?_ | refine Rt.tI ?_ | refine Rt.tB ?_ | refine Rt.tS ?_ | refine Rt.tP ?_ | refine Rt.tD ?_ | refine Rt.tM ?_ | refine Rt.tC ?_ | refine Rt.tN ?_ | refine Rt.tA ?_ | refine Rt.tG ?_ | refine Rt.tF ?_ | refine Rt.os ?_ | refine Rt.clS ?_ | refine Rt.jmN ?_ | refine Rt.jbN ?_ | refine Rt.jbE ?_)) | ((with_reducible (first | apply Rt.ld0 | apply Rt.ld1 | apply Rt.ld2 | apply Rt.ld3 | apply Rt.ld4 | apply Rt.ld5)); first | assumption | exact Lc.kp (by assumption) (by assumption)) | ((with_reducible apply Rt.ol); first | assumption | exact cell_kp (by assumption) (by assumption)))); exact Rt.some' rfl))))
    exact Rt.endB (by simp) ((k9.tr k10).tr k11)
set_option maxRecDepth 100000 in
theorem run_open {H : Type} {enc : TypeId × Value → H} {W : World} {base : Nat} {spare : Nat → Bool} {held : Bool} (n : Nat) (cs : List Value) (y : DataW H × List MemPlace) (h : DataW.trod enc Try.prog W base spare held n 33 cs = some y) : ∃ x, runEl.rd W cs x := by
  obtain ⟨hl, hg⟩ := st_open Try.underlying33 h
  have hl : cs.length = 6 := hl
  match cs, hl with
  | [c0, c1, c2, c3, c4, c5], _ =>
    obtain ⟨_, _, g0⟩ := hg 0 _ rfl
    obtain ⟨_, _, g1⟩ := hg 1 _ rfl
    obtain ⟨_, _, g2⟩ := hg 2 _ rfl
    obtain ⟨_, _, g3⟩ := hg 3 _ rfl
    obtain ⟨_, _, g4⟩ := hg 4 _ rfl
    obtain ⟨_, _, g5⟩ := hg 5 _ rfl
    obtain ⟨f, e0, r0⟩ := int_open (k := .i64) Try.underlying3 g0
    obtain ⟨b, e1, r1⟩ := int_open (k := .i64) Try.underlying3 g1
    obtain ⟨c, e2, r2⟩ := int_open (k := .i64) Try.underlying3 g2
    obtain ⟨A, l, p, xs, e3, b3⟩ := bv_open (e := 5) (k := .u8) Try.underlying30 Try.underlying5 (by kernel_rfl) g3
    obtain ⟨B, m, q, ys, e4, b4⟩ := bv_open (e := 5) (k := .u8) Try.underlying30 Try.underlying5 (by kernel_rfl) g4
    obtain ⟨s, e5, r5⟩ := int_open (k := .u64) Try.underlying31 g5
    have f0 : c0 = Value.int .i64 f := (List.cons.inj (show [c0] = [Value.int .i64 f] from e0)).1
    have f1 : c1 = Value.int .i64 b := (List.cons.inj (show [c1] = [Value.int .i64 b] from e1)).1
    have f2 : c2 = Value.int .i64 c := (List.cons.inj (show [c2] = [Value.int .i64 c] from e2)).1
    have f3 : c3 = Value.slice A l p := (List.cons.inj (show [c3] = [Value.slice A l p] from e3)).1
    have f4 : c4 = Value.slice B m q := (List.cons.inj (show [c4] = [Value.slice B m q] from e4)).1
    have f5 : c5 = Value.int .u64 s := (List.cons.inj (show [c5] = [Value.int .u64 s] from e5)).1
    clear e0 e1 e2 e3 e4 e5
    subst f0 f1 f2 f3 f4 f5
    exact ⟨⟨f, b, c, xs, ys, s⟩, _, _, _, _, _, _, _, _, _, _, rfl, rfl, rfl, rfl, rfl, r0, r1, r2, r5, b3, b4⟩
set_option maxRecDepth 100000 in
theorem edit_open {H : Type} {enc : TypeId × Value → H} {base : Nat} {W : World} {v : Value} {d : DataW H} {p : List MemPlace} (h : DataW.Trod enc Try.prog W 0 (fun _ => true) true 36 v d p) (k : Value.okWide Try.prog W .any base 36 v) :
    ∃ A l c B m d en el es x, v = ev A l c B m d en el es ∧ EditV W A l c B m d en el es x := by
  obtain ⟨cs, rfl, hsz⟩ := WideShapes.okWide_struct Try.underlying36 k
  obtain ⟨l⟩ := cs
  match l, hsz with
  | [c0, c1, c2, c3, c4], _ =>
    obtain ⟨fuel, hf⟩ := h
    obtain ⟨_, hg⟩ := st_open Try.underlying36 hf
    obtain ⟨_, _, g0⟩ := hg 0 _ rfl
    obtain ⟨_, _, g1⟩ := hg 1 _ rfl
    obtain ⟨_, _, g2⟩ := hg 2 _ rfl
    obtain ⟨_, _, g3⟩ := hg 3 _ rfl
    obtain ⟨_, _, g4⟩ := hg 4 _ rfl
    obtain ⟨A, l, c, xs, e0, b0⟩ := ev_open (E := runEl) Try.underlying34 (by kernel_rfl) run_open g0
    obtain ⟨B, m, dd, fs, e1, b1⟩ := bv_open (e := 3) (k := .i64) Try.underlying22 Try.underlying3 (by kernel_rfl) g1
    obtain ⟨x, e2, r2⟩ := int_open (k := .i64) Try.underlying3 g2
    obtain ⟨y, e3, r3⟩ := int_open (k := .i64) Try.underlying3 g3
    obtain ⟨s, e4, r4⟩ := int_open (k := .u64) Try.underlying31 g4
    have f0 : c0 = Value.slice A l c := (List.cons.inj (show [c0] = [Value.slice A l c] from e0)).1
    have f1 : c1 = Value.slice B m dd := (List.cons.inj (show [c1] = [Value.slice B m dd] from e1)).1
    have f2 : c2 = Value.int .i64 x := (List.cons.inj (show [c2] = [Value.int .i64 x] from e2)).1
    have f3 : c3 = Value.int .i64 y := (List.cons.inj (show [c3] = [Value.int .i64 y] from e3)).1
    have f4 : c4 = Value.int .u64 s := (List.cons.inj (show [c4] = [Value.int .u64 s] from e4)).1
    clear e0 e1 e2 e3 e4
    subst f0 f1 f2 f3 f4
    exact ⟨A, l, c, B, m, dd, x, y, s, ⟨xs, fs, x, y, s⟩, rfl, b0, b1, rfl, rfl, rfl, r2, r3, r4⟩
end
end Go.Proofs.Ytdnbpgakmbamoaa.Ed
