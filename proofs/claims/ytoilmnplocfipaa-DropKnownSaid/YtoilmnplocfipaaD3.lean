/- Drop: the example of the document; without snapshots; once more. -/
import Derived.Test.YtoilmnplocfipaaD2
import Derived.Test.YtoilmnplocfipaaDM
namespace Go.Proofs.Ytoilmnplocfipaa.Dr
open Go Big Go.RowKit Go.IntWalk Ik
set_option linter.unusedVariables false
set_option linter.unusedSimpArgs false
theorem keepR_one {ss : List Int} {last : Bool} {x : En} : keepR ss last [x] = trim ss last [x] ∧ keepE [x] = 0 := by
  unfold keepR keepE
  rw [if_pos (show risingE [x] from trivial), if_pos (show risingE [x] from trivial)]
  refine ⟨?_, rfl⟩
  show kept ss last [x] ++ keepF ss last 0 _ = _
  rw [keepF, List.append_nil]; rfl
theorem keepE_one {x : En} : keepE [x] = 0 := (keepR_one (ss := []) (last := true)).2
theorem bv_none {k : IntKind} {w : World} : Bv k w none 0 0 [] := ⟨Sl.nil .., fun _ => ⟨rfl, rfl⟩, Nat.le_refl _, Nat.zero_le _, by simp⟩
theorem num_run (n : Nat) (x : Int) (w : World) : Rt (butterylaw21_num n [.int .i64 x] w) (RI .i64 x w) := by
  rw [butterylaw21_num_eq]
  exact Rt.fin (Rt.endI rfl (Kp.rfl' w))
section
variable {α : Type} {Q : α → Prop} {n base : Nat} {w w0 w' : World} {A B C D : Option Addr} {l c m d a1 a2 b1 b2 : Nat} {s k s' k' : Int} {x y : En} {xs ys zs : List En} {ss : List Int} {v : Value}
theorem alive_spec (hn : 2 ^ 50 < n) : Rt (butterylaw21_alive n [] w) (RB True w) := by
  rw [butterylaw21_alive_eq]
  refine Rt.fin (Rt.lit conv [97] 1 rfl rfl (by decide) (by decide) fun A w1 b1 k1 => ?_)
  (repeat (first | (with_reducible (first | refine Rt.fin ?_ | refine Rt.tL ?_ | refine Rt.tI ?_ | refine Rt.tB ?_ | refine Rt.tS ?_ | refine Rt.tP ?_ | refine Rt.tD ?_ | refine Rt.tM ?_ | refine Rt.tC ?_ | refine Rt.tN ?_ | refine Rt.tA ?_ | refine Rt.tG ?_ | refine Rt.tF ?_ | refine Rt.os ?_ | refine Rt.clS ?_ | refine Rt.jmN ?_ | refine Rt.jbN ?_ | refine Rt.jbE ?_)) | ((with_reducible (first | apply Rt.ld0 | apply Rt.ld1 | apply Rt.ld2 | apply Rt.ld3 | apply Rt.ld4 | apply Rt.ld5)); first | assumption | exact Lc.kp (by assumption) (by assumption)) | ((with_reducible apply Rt.ol); first | assumption | exact cell_kp (by assumption) (by assumption)) | ((with_reducible apply Rt.ckR); focus ((repeat (first | (with_reducible (first | refine Rt.fin ?_ | refine Rt.tL ?_ | refine Rt.tI ?_ | refine Rt.tB ?_ | refine Rt.tS ?_ | refine Rt.tP ?_ | refine Rt.tD ?_ | refine Rt.tM ?_ | refine Rt.tC ?_ | refine Rt.tN ?_ | refine Rt.tA ?_ | refine Rt.tG ?_ | refine Rt.tF ?_ | refine Rt.os ?_ | refine Rt.clS ?_ | refine Rt.jmN ?_ | refine Rt.jbN ?_ | refine Rt.jbE ?_)) | ((with_reducible (first | apply Rt.ld0 | apply Rt.ld1 | apply Rt.ld2 | apply Rt.ld3 | apply Rt.ld4 | apply Rt.ld5)); first | assumption | exact Lc.kp (by assumption) (by assumption)) | ((with_reducible apply Rt.ol); first | assumption | exact cell_kp (by assumption) (by assumption)))); exact Rt.some' rfl))))
  refine Rt.ale (E := enEl) [⟨[97], 1, 0, []⟩] 1 (Rows.one ⟨_, _, _, _, _, _, _, _, rfl, ⟨b1, rfl, rfl, by decide, by decide, bv_none⟩⟩ rfl) rfl (by decide) fun w2 o2 k2 => ?_
  refine Rt.cEe (Keep_spec (ss := []) o2.ev bv_none (by simp) (by decide) (by decide) (by omega) hn) fun B d w3 h3 k3 => ?_
  refine Rt.lit conv [97] 1 rfl rfl (by decide) (by decide) fun A' w4 b4 k4 => ?_
  (repeat (first | (with_reducible (first | refine Rt.fin ?_ | refine Rt.tL ?_ | refine Rt.tI ?_ | refine Rt.tB ?_ | refine Rt.tS ?_ | refine Rt.tP ?_ | refine Rt.tD ?_ | refine Rt.tM ?_ | refine Rt.tC ?_ | refine Rt.tN ?_ | refine Rt.tA ?_ | refine Rt.tG ?_ | refine Rt.tF ?_ | refine Rt.os ?_ | refine Rt.clS ?_ | refine Rt.jmN ?_ | refine Rt.jbN ?_ | refine Rt.jbE ?_)) | ((with_reducible (first | apply Rt.ld0 | apply Rt.ld1 | apply Rt.ld2 | apply Rt.ld3 | apply Rt.ld4 | apply Rt.ld5)); first | assumption | exact Lc.kp (by assumption) (by assumption)) | ((with_reducible apply Rt.ol); first | assumption | exact cell_kp (by assumption) (by assumption)) | ((with_reducible apply Rt.ckR); focus ((repeat (first | (with_reducible (first | refine Rt.fin ?_ | refine Rt.tL ?_ | refine Rt.tI ?_ | refine Rt.tB ?_ | refine Rt.tS ?_ | refine Rt.tP ?_ | refine Rt.tD ?_ | refine Rt.tM ?_ | refine Rt.tC ?_ | refine Rt.tN ?_ | refine Rt.tA ?_ | refine Rt.tG ?_ | refine Rt.tF ?_ | refine Rt.os ?_ | refine Rt.clS ?_ | refine Rt.jmN ?_ | refine Rt.jbN ?_ | refine Rt.jbE ?_)) | ((with_reducible (first | apply Rt.ld0 | apply Rt.ld1 | apply Rt.ld2 | apply Rt.ld3 | apply Rt.ld4 | apply Rt.ld5)); first | assumption | exact Lc.kp (by assumption) (by assumption)) | ((with_reducible apply Rt.ol); first | assumption | exact cell_kp (by assumption) (by assumption)))); exact Rt.some' rfl))))
  refine Rt.ale (E := enEl) [⟨[97], 1, 1, []⟩] 1 (Rows.one ⟨_, _, _, _, _, _, _, _, rfl, ⟨b4, rfl, rfl, by decide, by decide, bv_none⟩⟩ rfl) rfl (by decide) fun w5 o5 k5 => ?_
  refine Rt.cEe (Keep_spec (ss := []) o5.ev bv_none (by simp) (by decide) (by decide) (by omega) hn) fun B' d' w6 h6 k6 => ?_
  have k := ((((k1.tr k2).tr k3).tr k4).tr k5).tr k6
  rw [(keepR_one (ss := []) (last := true) (x := ⟨[97], 1, 0, []⟩)).1, (keepR_one (ss := []) (last := true) (x := ⟨[97], 1, 1, []⟩)).1, keepE_one, keepE_one]
  refine Rt.cI (num_run n _ _) fun w7 k7 => Rt.cT rfl (Rt.cT (by decide) ?_)
  refine Rt.cI (num_run n _ _) fun w8 k8 => Rt.cT rfl ?_
  exact Rt.endB (by decide) ((k.tr k7).tr k8)
/-! ### Once more -/
theorem DropAgain_spec (hx : Ev enEl w A l c xs) (hs : Bv .u64 w B m d ss) (hl : l < 2 ^ 63) (hn : 2 ^ 63 < n) {last : Bool} : Rt (butterylaw21_DropAgain n [.slice A l c, .slice B m d, .bool last] w) (RB True w) := by
  have hxl := hx.len
  rw [butterylaw21_DropAgain_eq]
  refine Rt.fin (Rt.cBt (alive_spec (by omega)) trivial fun w1 k1 => Rt.cBo (Big_spec (hx.kp k1) hl (by omega)) fun b w2 hb k2 => Rt.cF rfl ?_)
  have k2 := k1.tr k2
  cases b with
  | true => exact Rt.cT rfl (Rt.endB (by simp) k2)
  | false =>
    have hnb : ¬ bigE xs := fun h => by simpa using hb.2 h
    have hL : ∀ z ∈ xs, z.key.length ≤ 300 ∧ z.val.length ≤ 300 := fun z hz => by
      have : ¬ (z.key.length > 300 ∨ z.val.length > 300) := fun h => hnb (.inl ⟨z, hz, h⟩)
      omega
    have hln : xs.length ≤ 60 := by
      have : ¬ (xs.length > 60) := fun h => hnb (.inr h)
      omega
    refine Rt.cF rfl (Rt.cD (fun h => Rt.endB (by simp) k2) fun hm => ?_)
    refine Rt.cBo (RRising_spec (hx.kp k2) (by omega) (by omega) (fun z hz => by have := hL z hz; omega) fun z hz => by have := hL z hz; omega) fun b w3 hb3 k3 => ?_
    have k3 := k2.tr k3
    cases b with
    | false => exact Rt.cT rfl (Rt.endB (by simp) k3)
    | true =>
      have hr := hb3.1 rfl
      refine Rt.cF rfl (Rt.cEe (Keep_spec (hx.kp k3) (hs.kp k3) (fun z hz => by have := hL z hz; omega) (by omega) (by omega) (by omega) (by omega)) fun D e w4 h4 k4 => ?_)
      have k4 := k3.tr k4
      have e1 : keepR ss last xs = keepP ss last xs := by unfold keepR; rw [if_pos hr]
      have e2 : keepE xs = 0 := by unfold keepE; rw [if_pos hr]
      rw [e1] at h4 ⊢
      rw [e2]
      have hsub := keepP_sub (ss := ss) (last := last) xs
      have hr2 := rising_sub hr hsub
      refine Rt.cEe (Keep_spec h4 (hs.kp k4) (fun z hz => by have := hL z (hsub.subset hz); omega) (by have := hsub.length_le; omega) (by omega) (by omega) (by omega)) fun D' e' w5 h5 k5 => ?_
      have e3 : keepR ss last (keepP ss last xs) = keepP ss last xs := by unfold keepR; rw [if_pos hr2, keepP_twice _ hr]
      have e4 : keepE (keepP ss last xs) = 0 := by unfold keepE; rw [if_pos hr2]
      rw [e3] at h5 ⊢
      rw [e4]
      have k5' := k4.tr k5
      refine Rt.cI (num_run n _ _) fun w6 k6 => Rt.cT rfl ?_
      refine Rt.cI (num_run n _ _) fun w7 k7 => Rt.cT rfl ?_
      have k67 := k6.tr k7
      refine Rt.cBt (SameEntries_spec ((h4.kp k5).kp k67) (h5.kp k67) (by have := hsub.length_le; omega) (by have := hsub.length_le; omega)) rfl fun w8 k8 => ?_
      exact Rt.endB (by simp) ((k5'.tr k67).tr k8)
end
end Go.Proofs.Ytoilmnplocfipaa.Dr
