/- A sum goes on over what stands behind, byte by byte. -/
import Derived.Test.YtfbbdokmddjfkaaCR
namespace Go.Proofs.Ytfbbdokmddjfkaa.Crc
open Go Big Go.RowKit Go.IntWalk
set_option linter.unusedVariables false
set_option linter.unusedSimpArgs false
theorem conv : ConvB Try.prog 24 := fun a l c w => by kernel_rfl
theorem u32_range (op : BinOp) (x y : Int) : 0 ≤ bits op .u32 x y ∧ bits op .u32 x y < 2 ^ 32 := by
  unfold bits
  rw [IntKind.wrap_u32]
  omega
theorem xor_twice {x : Int} (h0 : 0 ≤ x) (h1 : x < 2 ^ 32) (m : Int) : bits .xor .u32 m (bits .xor .u32 m x) = x := by
  obtain ⟨x, rfl⟩ := Int.eq_ofNat_of_zero_le h0
  have hx : x < 2 ^ 32 := by omega
  have e : ∀ y : Int, bits .xor .u32 m y = (((BitVec.ofInt 32 m ^^^ BitVec.ofInt 32 y).toNat : Nat) : Int) := fun y => by
    unfold bits
    simp only [IntKind.bits]
    show IntKind.u32.wrap (((BitVec.ofInt 32 m ^^^ BitVec.ofInt 32 y).toNat : Nat) : Int) = _
    have := (BitVec.ofInt 32 m ^^^ BitVec.ofInt 32 y).isLt
    exact u32_in _ (by omega)
  rw [e, e, BitVec.ofInt_natCast, BitVec.ofNat_toNat, BitVec.setWidth_eq, ← BitVec.xor_assoc, BitVec.xor_self, BitVec.zero_xor, BitVec.ofInt_natCast, BitVec.toNat_ofNat, Nat.mod_eq_of_lt hx]
theorem sumG_snoc (t : List Int) (c : Int) : ∀ (b : List Int) (x : Int), sumG t (b ++ [c]) x = bits .xor .u32 (Int.fdiv (sumG t b x) (2 ^ 8)) (t.getD (bits .xor .u8 (IntKind.u8.wrap (sumG t b x)) c).toNat 0)
  | [], x => rfl
  | a :: b, x => by
    rw [List.cons_append, sumG, sumG_snoc t c b]; rfl
theorem sumG_range (t : List Int) : ∀ (b : List Int) (x : Int), 0 ≤ x ∧ x < 2 ^ 32 → 0 ≤ sumG t b x ∧ sumG t b x < 2 ^ 32
  | [], x, h => h
  | a :: b, x, h => sumG_range t b _ (u32_range _ _ _)
def live : List Int := [49, 50, 51, 52, 53, 54, 55, 56, 57]
theorem sum_live : sum live = 3808858755 := by decide +kernel
section
variable {n : Nat} {w : World} {A B : Option Addr} {l c m d : Nat} {bs : List Int}
def RTab (w0 : World) : List Value × World → Prop := fun r => ∃ A c w', r = ([.slice A 256 c], w') ∧ Own .u32 37 w' w0.heap.size (.slice A 256 c) tab ∧ Kp w0 w'
theorem Table_rt (hn : 2 ^ 50 < n) : Rt (crc_Table n [] w) (RTab w) := by
  obtain ⟨A, c, w', h1, h2, h3⟩ := Table_spec (n := n) (by omega) w
  exact Rt.of h1 ⟨A, c, w', rfl, h2, h3⟩
theorem Sum_rt (hn : 2 ^ 50 < n) (ht : Sl .u32 w A 256 tab) (hb : Sl .u8 w B l bs) (hl : l < 2 ^ 50) : Rt (crc_Sum n [.slice A 256 c, .slice B l d] w) (RI .u32 (sum bs) w) :=
  Rt.of (Sum_spec (n := n) (by omega) hn A c tab ht B l d bs hb hl) ⟨w, rfl, Kp.rfl' w⟩
theorem alive_rt (hn : 2 ^ 50 < n) : Rt (butterylaw3_alive n [] w) (RB True w) := by
  rw [butterylaw3_alive_eq]
  refine Rt.fin (Rt.call (Table_rt hn) fun vs w1 h => ?_)
  obtain ⟨A, c, w1', e, o1, k1⟩ := h
  injection e with e e'
  subst e e'
  (repeat (first | (with_reducible (first | refine Rt.fin ?_ | refine Rt.tL ?_ | refine Rt.tI ?_ | refine Rt.tB ?_ | refine Rt.tS ?_ | refine Rt.tP ?_ | refine Rt.tD ?_ | refine Rt.tM ?_ | refine Rt.tC ?_ | refine Rt.tN ?_ | refine Rt.tA ?_ | refine Rt.tG ?_ | refine Rt.tF ?_ | refine Rt.os ?_ | refine Rt.clS ?_ | refine Rt.jmN ?_ | refine Rt.jbN ?_ | refine Rt.jbE ?_)) | ((with_reducible (first | apply Rt.ld0 | apply Rt.ld1 | apply Rt.ld2 | apply Rt.ld3 | apply Rt.ld4 | apply Rt.ld5)); first | assumption | exact Lc.kp (by assumption) (by assumption)) | ((with_reducible apply Rt.ol); first | assumption | exact cell_kp (by assumption) (by assumption)) | ((with_reducible apply Rt.ckR); focus ((repeat (first | (with_reducible (first | refine Rt.fin ?_ | refine Rt.tL ?_ | refine Rt.tI ?_ | refine Rt.tB ?_ | refine Rt.tS ?_ | refine Rt.tP ?_ | refine Rt.tD ?_ | refine Rt.tM ?_ | refine Rt.tC ?_ | refine Rt.tN ?_ | refine Rt.tA ?_ | refine Rt.tG ?_ | refine Rt.tF ?_ | refine Rt.os ?_ | refine Rt.clS ?_ | refine Rt.jmN ?_ | refine Rt.jbN ?_ | refine Rt.jbE ?_)) | ((with_reducible (first | apply Rt.ld0 | apply Rt.ld1 | apply Rt.ld2 | apply Rt.ld3 | apply Rt.ld4 | apply Rt.ld5)); first | assumption | exact Lc.kp (by assumption) (by assumption)) | ((with_reducible apply Rt.ol); first | assumption | exact cell_kp (by assumption) (by assumption)))); exact Rt.some' rfl))))
  refine Rt.lit conv live 9 rfl rfl (by decide) (by decide) fun B w2 b2 k2 => ?_
  (repeat (first | (with_reducible (first | refine Rt.fin ?_ | refine Rt.tL ?_ | refine Rt.tI ?_ | refine Rt.tB ?_ | refine Rt.tS ?_ | refine Rt.tP ?_ | refine Rt.tD ?_ | refine Rt.tM ?_ | refine Rt.tC ?_ | refine Rt.tN ?_ | refine Rt.tA ?_ | refine Rt.tG ?_ | refine Rt.tF ?_ | refine Rt.os ?_ | refine Rt.clS ?_ | refine Rt.jmN ?_ | refine Rt.jbN ?_ | refine Rt.jbE ?_)) | ((with_reducible (first | apply Rt.ld0 | apply Rt.ld1 | apply Rt.ld2 | apply Rt.ld3 | apply Rt.ld4 | apply Rt.ld5)); first | assumption | exact Lc.kp (by assumption) (by assumption)) | ((with_reducible apply Rt.ol); first | assumption | exact cell_kp (by assumption) (by assumption)) | ((with_reducible apply Rt.ckR); focus ((repeat (first | (with_reducible (first | refine Rt.fin ?_ | refine Rt.tL ?_ | refine Rt.tI ?_ | refine Rt.tB ?_ | refine Rt.tS ?_ | refine Rt.tP ?_ | refine Rt.tD ?_ | refine Rt.tM ?_ | refine Rt.tC ?_ | refine Rt.tN ?_ | refine Rt.tA ?_ | refine Rt.tG ?_ | refine Rt.tF ?_ | refine Rt.os ?_ | refine Rt.clS ?_ | refine Rt.jmN ?_ | refine Rt.jbN ?_ | refine Rt.jbE ?_)) | ((with_reducible (first | apply Rt.ld0 | apply Rt.ld1 | apply Rt.ld2 | apply Rt.ld3 | apply Rt.ld4 | apply Rt.ld5)); first | assumption | exact Lc.kp (by assumption) (by assumption)) | ((with_reducible apply Rt.ol); first | assumption | exact cell_kp (by assumption) (by assumption)))); exact Rt.some' rfl))))
  refine Rt.cI (Sum_rt hn (o1.kp k2).sl.2 b2.sl (by decide)) fun w3 k3 => ?_
  rw [sum_live]
  exact Rt.endB (by simp) ((k1.tr k2).tr k3)
theorem CrcParts_spec {x : Int} (hn : 2 ^ 50 < n) (hb : Bv .u8 w B l d bs) : Rt (butterylaw3_CrcParts n [.slice B l d, .int .u8 x] w) (RB True w) := by
  obtain ⟨t, hT⟩ := slT24
  have hbl := hb.len
  rw [butterylaw3_CrcParts_eq]
  refine Rt.fin (Rt.cBt (alive_rt hn) trivial fun w1 k1 => Rt.cF rfl (Rt.cD (fun h => Rt.endB (by simp) k1) fun hl => ?_))
  refine Rt.call (Table_rt hn) fun vs w2 h => ?_
  obtain ⟨A, c, w2', e, o2, k2⟩ := h
  injection e with e e'
  subst e e'
  (repeat (first | (with_reducible (first | refine Rt.fin ?_ | refine Rt.tL ?_ | refine Rt.tI ?_ | refine Rt.tB ?_ | refine Rt.tS ?_ | refine Rt.tP ?_ | refine Rt.tD ?_ | refine Rt.tM ?_ | refine Rt.tC ?_ | refine Rt.tN ?_ | refine Rt.tA ?_ | refine Rt.tG ?_ | refine Rt.tF ?_ | refine Rt.os ?_ | refine Rt.clS ?_ | refine Rt.jmN ?_ | refine Rt.jbN ?_ | refine Rt.jbE ?_)) | ((with_reducible (first | apply Rt.ld0 | apply Rt.ld1 | apply Rt.ld2 | apply Rt.ld3 | apply Rt.ld4 | apply Rt.ld5)); first | assumption | exact Lc.kp (by assumption) (by assumption)) | ((with_reducible apply Rt.ol); first | assumption | exact cell_kp (by assumption) (by assumption)) | ((with_reducible apply Rt.ckR); focus ((repeat (first | (with_reducible (first | refine Rt.fin ?_ | refine Rt.tL ?_ | refine Rt.tI ?_ | refine Rt.tB ?_ | refine Rt.tS ?_ | refine Rt.tP ?_ | refine Rt.tD ?_ | refine Rt.tM ?_ | refine Rt.tC ?_ | refine Rt.tN ?_ | refine Rt.tA ?_ | refine Rt.tG ?_ | refine Rt.tF ?_ | refine Rt.os ?_ | refine Rt.clS ?_ | refine Rt.jmN ?_ | refine Rt.jbN ?_ | refine Rt.jbE ?_)) | ((with_reducible (first | apply Rt.ld0 | apply Rt.ld1 | apply Rt.ld2 | apply Rt.ld3 | apply Rt.ld4 | apply Rt.ld5)); first | assumption | exact Lc.kp (by assumption) (by assumption)) | ((with_reducible apply Rt.ol); first | assumption | exact cell_kp (by assumption) (by assumption)))); exact Rt.some' rfl))))
  have k12 := k1.tr k2
  refine Rt.cN (fun _ => ?_) fun h => absurd rfl h
  refine Rt.cI (Sum_rt hn o2.sl.2 (hb.kp k12).sl (by omega)) fun w3 k3 => ?_
  have k13 := k12.tr k3
  have hg := sumG_range tab bs 4294967295 (by decide)
  have hx : bits .xor .u32 4294967295 (sum bs) = sumG tab bs 4294967295 := xor_twice hg.1 hg.2 _
  have hs : sum (bs ++ [x]) = bits .xor .u32 4294967295 (bits .xor .u32 (Int.fdiv (sumG tab bs 4294967295) (2 ^ 8)) (tab.getD (bits .xor .u8 (IntKind.u8.wrap (sumG tab bs 4294967295)) x).toNat 0)) := by rw [sum, sumG_snoc]
  rw [hx]
  have o3 := (o2.kp k3).dr
  have k3d := k13.dr
  have hr := u8_range .xor (IntKind.u8.wrap (sumG tab bs 4294967295)) x
  obtain ⟨a, ha, hc⟩ := o3.sl.2.at_ (i := bits .xor .u8 (IntKind.u8.wrap (sumG tab bs 4294967295)) x) hr.1 (by omega)
  subst ha
  have hix : ∀ f : Addr → Option Res, ixA (some a) 256 (bits .xor .u8 (IntKind.u8.wrap (sumG tab bs 4294967295)) x) 1 f = f (a.add (bits .xor .u8 (IntKind.u8.wrap (sumG tab bs 4294967295)) x).toNat) := fun f => by
    unfold ixA
    simp only
    rw [if_pos ⟨hr.1, by omega⟩, Nat.mul_one]
  refine Rt.cB (fun _ => ?_) fun _ => ?_
  · refine Rt.app0 hT (hb.kp k3d).sl hb.nil (by omega) fun C e4 w4 o4 k4 => ?_
    (repeat (first | (with_reducible (first | refine Rt.fin ?_ | refine Rt.tL ?_ | refine Rt.tI ?_ | refine Rt.tB ?_ | refine Rt.tS ?_ | refine Rt.tP ?_ | refine Rt.tD ?_ | refine Rt.tM ?_ | refine Rt.tC ?_ | refine Rt.tN ?_ | refine Rt.tA ?_ | refine Rt.tG ?_ | refine Rt.tF ?_ | refine Rt.os ?_ | refine Rt.clS ?_ | refine Rt.jmN ?_ | refine Rt.jbN ?_ | refine Rt.jbE ?_)) | ((with_reducible (first | apply Rt.ld0 | apply Rt.ld1 | apply Rt.ld2 | apply Rt.ld3 | apply Rt.ld4 | apply Rt.ld5)); first | assumption | exact Lc.kp (by assumption) (by assumption)) | ((with_reducible apply Rt.ol); first | assumption | exact cell_kp (by assumption) (by assumption)) | ((with_reducible apply Rt.ckR); focus ((repeat (first | (with_reducible (first | refine Rt.fin ?_ | refine Rt.tL ?_ | refine Rt.tI ?_ | refine Rt.tB ?_ | refine Rt.tS ?_ | refine Rt.tP ?_ | refine Rt.tD ?_ | refine Rt.tM ?_ | refine Rt.tC ?_ | refine Rt.tN ?_ | refine Rt.tA ?_ | refine Rt.tG ?_ | refine Rt.tF ?_ | refine Rt.os ?_ | refine Rt.clS ?_ | refine Rt.jmN ?_ | refine Rt.jbN ?_ | refine Rt.jbE ?_)) | ((with_reducible (first | apply Rt.ld0 | apply Rt.ld1 | apply Rt.ld2 | apply Rt.ld3 | apply Rt.ld4 | apply Rt.ld5)); first | assumption | exact Lc.kp (by assumption) (by assumption)) | ((with_reducible apply Rt.ol); first | assumption | exact cell_kp (by assumption) (by assumption)))); exact Rt.some' rfl))))
    refine Rt.alo [_] 1 rfl rfl (by decide) fun w5 o5 k5 => ?_
    refine Rt.app hT (base := w3.drew.heap.size) (o4.kp k5) o5.sl.2 (fun h => by cases h) (by omega) (by have := k4.size; have := k5.size; omega) fun D e6 w6 o6 hk6 _ _ => ?_
    (repeat (first | (with_reducible (first | refine Rt.fin ?_ | refine Rt.tL ?_ | refine Rt.tI ?_ | refine Rt.tB ?_ | refine Rt.tS ?_ | refine Rt.tP ?_ | refine Rt.tD ?_ | refine Rt.tM ?_ | refine Rt.tC ?_ | refine Rt.tN ?_ | refine Rt.tA ?_ | refine Rt.tG ?_ | refine Rt.tF ?_ | refine Rt.os ?_ | refine Rt.clS ?_ | refine Rt.jmN ?_ | refine Rt.jbN ?_ | refine Rt.jbE ?_)) | ((with_reducible (first | apply Rt.ld0 | apply Rt.ld1 | apply Rt.ld2 | apply Rt.ld3 | apply Rt.ld4 | apply Rt.ld5)); first | assumption | exact Lc.kp (by assumption) (by assumption)) | ((with_reducible apply Rt.ol); first | assumption | exact cell_kp (by assumption) (by assumption)) | ((with_reducible apply Rt.ckR); focus ((repeat (first | (with_reducible (first | refine Rt.fin ?_ | refine Rt.tL ?_ | refine Rt.tI ?_ | refine Rt.tB ?_ | refine Rt.tS ?_ | refine Rt.tP ?_ | refine Rt.tD ?_ | refine Rt.tM ?_ | refine Rt.tC ?_ | refine Rt.tN ?_ | refine Rt.tA ?_ | refine Rt.tG ?_ | refine Rt.tF ?_ | refine Rt.os ?_ | refine Rt.clS ?_ | refine Rt.jmN ?_ | refine Rt.jbN ?_ | refine Rt.jbE ?_)) | ((with_reducible (first | apply Rt.ld0 | apply Rt.ld1 | apply Rt.ld2 | apply Rt.ld3 | apply Rt.ld4 | apply Rt.ld5)); first | assumption | exact Lc.kp (by assumption) (by assumption)) | ((with_reducible apply Rt.ol); first | assumption | exact cell_kp (by assumption) (by assumption)))); exact Rt.some' rfl))))
    have k36 := hk6 w3.drew (k4.tr k5) (Nat.le_refl _)
    refine Rt.cI (Sum_rt hn (o3.kp k36).sl.2 o6.sl.2 (by omega)) fun w7 k7 => ?_
    have k37 := k36.tr k7
    refine Rt.ck rfl (Rt.ck rfl (Rt.ck rfl (Rt.ck rfl ?_)))
    rw [hix]
    refine Rt.ol (cell_kp hc k37) (Rt.tI ?_)
    refine Rt.ck (by rw [cell_kp hc k36, opt_some, tI_mk]) (Rt.ck (by rw [cell_kp hc (k4.tr k5), opt_some, tI_mk]) (Rt.ck (by rw [cell_kp hc k4, opt_some, tI_mk]) (Rt.ck (by rw [hc, opt_some, tI_mk]) ?_)))
    rw [hs]
    exact Rt.endB (by simp) (k3d.tr k37)
  · refine Rt.alo [_] 1 rfl rfl (by decide) fun w4 o4 k4 => ?_
    refine Rt.app0 hT ((hb.kp k3d).kp k4).sl hb.nil (by omega) fun C e4 w5 o5 k5 => ?_
    (repeat (first | (with_reducible (first | refine Rt.fin ?_ | refine Rt.tL ?_ | refine Rt.tI ?_ | refine Rt.tB ?_ | refine Rt.tS ?_ | refine Rt.tP ?_ | refine Rt.tD ?_ | refine Rt.tM ?_ | refine Rt.tC ?_ | refine Rt.tN ?_ | refine Rt.tA ?_ | refine Rt.tG ?_ | refine Rt.tF ?_ | refine Rt.os ?_ | refine Rt.clS ?_ | refine Rt.jmN ?_ | refine Rt.jbN ?_ | refine Rt.jbE ?_)) | ((with_reducible (first | apply Rt.ld0 | apply Rt.ld1 | apply Rt.ld2 | apply Rt.ld3 | apply Rt.ld4 | apply Rt.ld5)); first | assumption | exact Lc.kp (by assumption) (by assumption)) | ((with_reducible apply Rt.ol); first | assumption | exact cell_kp (by assumption) (by assumption)) | ((with_reducible apply Rt.ckR); focus ((repeat (first | (with_reducible (first | refine Rt.fin ?_ | refine Rt.tL ?_ | refine Rt.tI ?_ | refine Rt.tB ?_ | refine Rt.tS ?_ | refine Rt.tP ?_ | refine Rt.tD ?_ | refine Rt.tM ?_ | refine Rt.tC ?_ | refine Rt.tN ?_ | refine Rt.tA ?_ | refine Rt.tG ?_ | refine Rt.tF ?_ | refine Rt.os ?_ | refine Rt.clS ?_ | refine Rt.jmN ?_ | refine Rt.jbN ?_ | refine Rt.jbE ?_)) | ((with_reducible (first | apply Rt.ld0 | apply Rt.ld1 | apply Rt.ld2 | apply Rt.ld3 | apply Rt.ld4 | apply Rt.ld5)); first | assumption | exact Lc.kp (by assumption) (by assumption)) | ((with_reducible apply Rt.ol); first | assumption | exact cell_kp (by assumption) (by assumption)))); exact Rt.some' rfl))))
    refine Rt.app hT (base := w4.heap.size) o5 (o4.kp k5).sl.2 (fun h => by cases h) (by omega) k5.size fun D e6 w6 o6 hk6 _ _ => ?_
    (repeat (first | (with_reducible (first | refine Rt.fin ?_ | refine Rt.tL ?_ | refine Rt.tI ?_ | refine Rt.tB ?_ | refine Rt.tS ?_ | refine Rt.tP ?_ | refine Rt.tD ?_ | refine Rt.tM ?_ | refine Rt.tC ?_ | refine Rt.tN ?_ | refine Rt.tA ?_ | refine Rt.tG ?_ | refine Rt.tF ?_ | refine Rt.os ?_ | refine Rt.clS ?_ | refine Rt.jmN ?_ | refine Rt.jbN ?_ | refine Rt.jbE ?_)) | ((with_reducible (first | apply Rt.ld0 | apply Rt.ld1 | apply Rt.ld2 | apply Rt.ld3 | apply Rt.ld4 | apply Rt.ld5)); first | assumption | exact Lc.kp (by assumption) (by assumption)) | ((with_reducible apply Rt.ol); first | assumption | exact cell_kp (by assumption) (by assumption)) | ((with_reducible apply Rt.ckR); focus ((repeat (first | (with_reducible (first | refine Rt.fin ?_ | refine Rt.tL ?_ | refine Rt.tI ?_ | refine Rt.tB ?_ | refine Rt.tS ?_ | refine Rt.tP ?_ | refine Rt.tD ?_ | refine Rt.tM ?_ | refine Rt.tC ?_ | refine Rt.tN ?_ | refine Rt.tA ?_ | refine Rt.tG ?_ | refine Rt.tF ?_ | refine Rt.os ?_ | refine Rt.clS ?_ | refine Rt.jmN ?_ | refine Rt.jbN ?_ | refine Rt.jbE ?_)) | ((with_reducible (first | apply Rt.ld0 | apply Rt.ld1 | apply Rt.ld2 | apply Rt.ld3 | apply Rt.ld4 | apply Rt.ld5)); first | assumption | exact Lc.kp (by assumption) (by assumption)) | ((with_reducible apply Rt.ol); first | assumption | exact cell_kp (by assumption) (by assumption)))); exact Rt.some' rfl))))
    have k36 := k4.tr (hk6 w4 k5 (Nat.le_refl _))
    refine Rt.cI (Sum_rt hn (o3.kp k36).sl.2 o6.sl.2 (by omega)) fun w7 k7 => ?_
    have k37 := k36.tr k7
    refine Rt.ck rfl (Rt.ck rfl (Rt.ck rfl (Rt.ck rfl ?_)))
    rw [hix]
    refine Rt.ol (cell_kp hc k37) (Rt.tI ?_)
    refine Rt.ck (by rw [cell_kp hc k36, opt_some, tI_mk]) (Rt.ck (by rw [cell_kp hc (k4.tr k5), opt_some, tI_mk]) (Rt.ck (by rw [cell_kp hc k4, opt_some, tI_mk]) (Rt.ck (by rw [hc, opt_some, tI_mk]) ?_)))
    rw [hs]
    exact Rt.endB (by simp) (k3d.tr k37)
end
end Go.Proofs.Ytfbbdokmddjfkaa.Crc
