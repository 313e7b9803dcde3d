/- Edits: Read of the program. -/
import Derived.Test.YtdnbpgakmbamoaaE8
namespace Go.Proofs.Ytdnbpgakmbamoaa.Ed
open Go Big Go.RowKit Go.IntWalk Cm Var Low Par
set_option linter.unusedVariables false
set_option linter.unusedSimpArgs false
set_option linter.unusedSectionVars false
def REd (w0 : World) (x : Int × EditD) : List Value × World → Prop := fun r => ∃ A l c B m d w', r = ([ev A l c B m d x.2.next x.2.log x.2.seq, .int .i64 x.1], w') ∧ EditV w' A l c B m d x.2.next x.2.log x.2.seq x.2 ∧ Kp w0 w'
theorem edit_err {zs : List Int} {e : Int} (h : (rawP zs 0).1 = e) (he : e ≠ 0) : allP editP zs = (e, default) := by
  have : (editP zs 0).1 = e := by unfold editP bindP; rw [if_neg (by omega)]; exact h
  unfold allP
  rw [if_pos (by omega), this]
theorem edit_bad {zs : List Int} {raw : EditD} {a : Nat} (h : rawP zs 0 = (0, raw, a)) (hr : ¬ rightE raw) : allP editP zs = (2, default) := by
  have : (editP zs 0).1 = 2 := by unfold editP bindP; rw [h]; dsimp only; rw [if_pos rfl, if_neg hr]; rfl
  unfold allP
  rw [if_pos (by omega), this]
theorem edit_good {zs : List Int} {raw : EditD} {a : Nat} (h : rawP zs 0 = (0, raw, a)) (hr : rightE raw) : allP editP zs = if a ≠ zs.length then (2, default) else (0, raw) := by
  have : editP zs 0 = (0, raw, a) := by unfold editP bindP; rw [h]; dsimp only; rw [if_pos rfl, if_pos hr]; rfl
  unfold allP
  rw [this]
  simp
theorem zeroV' (w : World) : EditV w none 0 0 none 0 0 (default : EditD).next (default : EditD).log (default : EditD).seq default := zeroV w (x := 0) (by decide)
theorem stp_raw {zs : List Int} {a : Nat} {e : Int} {raw : EditD} (h : Stp rawP zs 0 0 a e raw) (he : e = 0) : rawP zs 0 = (0, raw, a) := by
  obtain ⟨h1, h2⟩ := h.ok rfl he
  rw [h1, h2]; exact triple (by rw [← h.err rfl]; exact he)
section
variable {α : Type} {Q : α → Prop} {n : Nat} {w w0 : World} {A B C : Option Addr} {l c m d p i : Nat} {k e : Int} {g : Bool} {bs zs : List Int}
theorem Read_spec (hb : Bv .u8 w A l c zs) (hl : l ≤ 2 ^ 38) (hn : 2 ^ 59 < n) : Rt (edit_Read n [.slice A l c] w) (REd w (allP editP zs)) := by
  have hzl := hb.len
  rw [edit_Read_eq]
  refine Rt.fin (Rt.al fun w1 lb0 k1 s1 => Rt.al fun w2 hr2 k2 s2 => Rt.al fun w3 lxb k3 s3 => ?_)
  have k03 := (k1.tr k2).tr k3
  have lb0 := (lb0.kp k2).kp k3
  have hr3 := Lc.kp hr2 k3
  generalize hB : w.heap.size = b0 at *
  generalize hP : w1.heap.size = p at *
  generalize hX : w2.heap.size = xb at *
  have z3 := k3.size
  have tx : ∀ {wa wb : World}, Kp w wa → Gx (fun k => k = p) wa wb → Kp w wb := fun k g => k.tx g fun j hj => by omega
  refine Rt.call (limited_spec (n := n) (b := 100) (i := 0) (e := 0) hr3 k03 (by omega) hb (Nat.zero_le _) hl hn (by decide)) ?_
  rintro _ w4 ⟨nn, _, i1, e1, hr1, hR1, hi1, G1, bn, bn0, st1⟩
  cases hr1
  have k4 := tx k03 G1
  have lb4 := lb0.gx G1 (by omega)
  have lx4 := lxb.gx G1 (by omega)
  have z4 := G1.size
  (repeat (first | (with_reducible (first | refine Rt.fin ?_ | refine Rt.tL ?_ | refine Rt.tI ?_ | refine Rt.tB ?_ | refine Rt.tS ?_ | refine Rt.tP ?_ | refine Rt.tD ?_ | refine Rt.tM ?_ | refine Rt.tC ?_ | refine Rt.tN ?_ | refine Rt.tA ?_ | refine Rt.tG ?_ | refine Rt.tF ?_ | refine Rt.os ?_ | refine Rt.clS ?_ | refine Rt.jmN ?_ | refine Rt.jbN ?_ | refine Rt.jbE ?_)) | ((with_reducible (first | apply Rt.ld0 | apply Rt.ld1 | apply Rt.ld2 | apply Rt.ld3 | apply Rt.ld4 | apply Rt.ld5)); first | assumption | exact Lc.kp (by assumption) (by assumption)) | ((with_reducible apply Rt.ol); first | assumption | exact cell_kp (by assumption) (by assumption)) | ((with_reducible apply Rt.ckR); focus ((repeat (first | (with_reducible (first | refine Rt.fin ?_ | refine Rt.tL ?_ | refine Rt.tI ?_ | refine Rt.tB ?_ | refine Rt.tS ?_ | refine Rt.tP ?_ | refine Rt.tD ?_ | refine Rt.tM ?_ | refine Rt.tC ?_ | refine Rt.tN ?_ | refine Rt.tA ?_ | refine Rt.tG ?_ | refine Rt.tF ?_ | refine Rt.os ?_ | refine Rt.clS ?_ | refine Rt.jmN ?_ | refine Rt.jbN ?_ | refine Rt.jbE ?_)) | ((with_reducible (first | apply Rt.ld0 | apply Rt.ld1 | apply Rt.ld2 | apply Rt.ld3 | apply Rt.ld4 | apply Rt.ld5)); first | assumption | exact Lc.kp (by assumption) (by assumption)) | ((with_reducible apply Rt.ol); first | assumption | exact cell_kp (by assumption) (by assumption)))); exact Rt.some' rfl))))
  have hl0 := Read_l0 (n := n) (w0 := w) (p := p) (b0 := b0) (xb := xb) (base := w4.heap.size) hb hl hn (by omega) (by omega) (by omega) (by omega) (by omega) (by omega) (by omega) (by omega) (by omega) nn.toNat n w4 i1 e1 false none 0 [] (by omega) k4 (Nat.le_refl _) hR1 hi1 lb4 lx4 (by simp; omega) (OwnX.nil _ _ _)
  rw [show ((nn.toNat : Nat) : Int) = nn by omega] at hl0
  refine Rt.jb (Rt.mono hl0 ?_)
  rintro ⟨ex, vs, w5⟩ ⟨f1, f2, k5, z5, lb5, i2, e2, g2, R2, d2, ts, ts', hR2, hi2, lx5, o5, st2, t2, u2, q2⟩
  dsimp only at f1 f2 k5 z5 lb5 hR2 lx5 o5
  subst f1 f2
  rw [List.nil_append] at lx5 o5
  refine .inl ⟨.inr rfl, ?_⟩
  dsimp only
  (repeat (first | (with_reducible (first | refine Rt.fin ?_ | refine Rt.tL ?_ | refine Rt.tI ?_ | refine Rt.tB ?_ | refine Rt.tS ?_ | refine Rt.tP ?_ | refine Rt.tD ?_ | refine Rt.tM ?_ | refine Rt.tC ?_ | refine Rt.tN ?_ | refine Rt.tA ?_ | refine Rt.tG ?_ | refine Rt.tF ?_ | refine Rt.os ?_ | refine Rt.clS ?_ | refine Rt.jmN ?_ | refine Rt.jbN ?_ | refine Rt.jbE ?_)) | ((with_reducible (first | apply Rt.ld0 | apply Rt.ld1 | apply Rt.ld2 | apply Rt.ld3 | apply Rt.ld4 | apply Rt.ld5)); first | assumption | exact Lc.kp (by assumption) (by assumption)) | ((with_reducible apply Rt.ol); first | assumption | exact cell_kp (by assumption) (by assumption)) | ((with_reducible apply Rt.ckR); focus ((repeat (first | (with_reducible (first | refine Rt.fin ?_ | refine Rt.tL ?_ | refine Rt.tI ?_ | refine Rt.tB ?_ | refine Rt.tS ?_ | refine Rt.tP ?_ | refine Rt.tD ?_ | refine Rt.tM ?_ | refine Rt.tC ?_ | refine Rt.tN ?_ | refine Rt.tA ?_ | refine Rt.tG ?_ | refine Rt.tF ?_ | refine Rt.os ?_ | refine Rt.clS ?_ | refine Rt.jmN ?_ | refine Rt.jbN ?_ | refine Rt.jbE ?_)) | ((with_reducible (first | apply Rt.ld0 | apply Rt.ld1 | apply Rt.ld2 | apply Rt.ld3 | apply Rt.ld4 | apply Rt.ld5)); first | assumption | exact Lc.kp (by assumption) (by assumption)) | ((with_reducible apply Rt.ol); first | assumption | exact cell_kp (by assumption) (by assumption)))); exact Rt.some' rfl))))
  refine Rt.call (limited_spec (n := n) (b := 100) hR2 k5 (by omega) hb hi2 hl hn (by decide)) ?_
  rintro _ w6 ⟨mm, _, i3, e3, hr3', hR3, hi3, G3, bm, bm0, st3⟩
  cases hr3'
  have k6 := tx k5 G3
  have lb6 := lb5.gx G3 (by omega)
  have lx6 := lx5.gx G3 (by omega)
  have orow := o5.lt
  have o6 := o5.gx G3 (fun k _ h => .inl h) fun k hk hv => by have := (orow _ hv).1; omega
  have z6 := G3.size
  (repeat (first | (with_reducible (first | refine Rt.fin ?_ | refine Rt.tL ?_ | refine Rt.tI ?_ | refine Rt.tB ?_ | refine Rt.tS ?_ | refine Rt.tP ?_ | refine Rt.tD ?_ | refine Rt.tM ?_ | refine Rt.tC ?_ | refine Rt.tN ?_ | refine Rt.tA ?_ | refine Rt.tG ?_ | refine Rt.tF ?_ | refine Rt.os ?_ | refine Rt.clS ?_ | refine Rt.jmN ?_ | refine Rt.jbN ?_ | refine Rt.jbE ?_)) | ((with_reducible (first | apply Rt.ld0 | apply Rt.ld1 | apply Rt.ld2 | apply Rt.ld3 | apply Rt.ld4 | apply Rt.ld5)); first | assumption | exact Lc.kp (by assumption) (by assumption)) | ((with_reducible apply Rt.ol); first | assumption | exact cell_kp (by assumption) (by assumption)) | ((with_reducible apply Rt.ckR); focus ((repeat (first | (with_reducible (first | refine Rt.fin ?_ | refine Rt.tL ?_ | refine Rt.tI ?_ | refine Rt.tB ?_ | refine Rt.tS ?_ | refine Rt.tP ?_ | refine Rt.tD ?_ | refine Rt.tM ?_ | refine Rt.tC ?_ | refine Rt.tN ?_ | refine Rt.tA ?_ | refine Rt.tG ?_ | refine Rt.tF ?_ | refine Rt.os ?_ | refine Rt.clS ?_ | refine Rt.jmN ?_ | refine Rt.jbN ?_ | refine Rt.jbE ?_)) | ((with_reducible (first | apply Rt.ld0 | apply Rt.ld1 | apply Rt.ld2 | apply Rt.ld3 | apply Rt.ld4 | apply Rt.ld5)); first | assumption | exact Lc.kp (by assumption) (by assumption)) | ((with_reducible apply Rt.ol); first | assumption | exact cell_kp (by assumption) (by assumption)))); exact Rt.some' rfl))))
  have hl1 := Read_l1 (n := n) (w0 := w) (p := p) (b0 := b0) (xb := xb) (base := w6.heap.size) hb hl hn (by omega) (by omega) (by omega) (by omega) (by omega) (by omega) (by omega) (by omega) (by omega) mm.toNat n w6 i3 e3 g2 none 0 [] (by omega) k6 (Nat.le_refl _) hR3 hi3 lb6 lx6 (by simp; omega) (Own.nil _ _) (by simp)
  rw [show ((mm.toNat : Nat) : Int) = mm by omega] at hl1
  refine Rt.jb (Rt.mono hl1 ?_)
  rintro ⟨ex, vs, w7⟩ ⟨f1, f2, k7, G7, lb7, i4, e4, g4, R4, d4, ds, ds', hR4, hi4, lx7, o7d, bd7, st4, t4, u4, q4⟩
  dsimp only at f1 f2 k7 G7 lb7 hR4 lx7 o7d
  subst f1 f2
  rw [List.nil_append] at lx7 o7d bd7
  have o7 := o6.gx G7 (fun k _ h => h.elim id fun h => by cases h) fun k hk hv => by
    rcases hk with hk | hk
    · have := (orow _ hv).1; rcases hk with h | h | h <;> omega
    · cases hk
  have z7 := G7.size
  refine .inl ⟨.inr rfl, ?_⟩
  dsimp only
  (repeat (first | (with_reducible (first | refine Rt.fin ?_ | refine Rt.tL ?_ | refine Rt.tI ?_ | refine Rt.tB ?_ | refine Rt.tS ?_ | refine Rt.tP ?_ | refine Rt.tD ?_ | refine Rt.tM ?_ | refine Rt.tC ?_ | refine Rt.tN ?_ | refine Rt.tA ?_ | refine Rt.tG ?_ | refine Rt.tF ?_ | refine Rt.os ?_ | refine Rt.clS ?_ | refine Rt.jmN ?_ | refine Rt.jbN ?_ | refine Rt.jbE ?_)) | ((with_reducible (first | apply Rt.ld0 | apply Rt.ld1 | apply Rt.ld2 | apply Rt.ld3 | apply Rt.ld4 | apply Rt.ld5)); first | assumption | exact Lc.kp (by assumption) (by assumption)) | ((with_reducible apply Rt.ol); first | assumption | exact cell_kp (by assumption) (by assumption)) | ((with_reducible apply Rt.ckR); focus ((repeat (first | (with_reducible (first | refine Rt.fin ?_ | refine Rt.tL ?_ | refine Rt.tI ?_ | refine Rt.tB ?_ | refine Rt.tS ?_ | refine Rt.tP ?_ | refine Rt.tD ?_ | refine Rt.tM ?_ | refine Rt.tC ?_ | refine Rt.tN ?_ | refine Rt.tA ?_ | refine Rt.tG ?_ | refine Rt.tF ?_ | refine Rt.os ?_ | refine Rt.clS ?_ | refine Rt.jmN ?_ | refine Rt.jbN ?_ | refine Rt.jbE ?_)) | ((with_reducible (first | apply Rt.ld0 | apply Rt.ld1 | apply Rt.ld2 | apply Rt.ld3 | apply Rt.ld4 | apply Rt.ld5)); first | assumption | exact Lc.kp (by assumption) (by assumption)) | ((with_reducible apply Rt.ol); first | assumption | exact cell_kp (by assumption) (by assumption)))); exact Rt.some' rfl))))
  refine Rt.call (int_spec (n := n) hR4 k7 (by omega) hb hi4 hl hn) ?_
  rintro _ w8 ⟨xn, vn, _, i5, e5, g5, hr5, hR5, hi5, G5, bxn, bvn, st5, t5, u5⟩
  cases hr5
  have k8 := tx k7 G5
  (repeat (first | (with_reducible (first | refine Rt.fin ?_ | refine Rt.tL ?_ | refine Rt.tI ?_ | refine Rt.tB ?_ | refine Rt.tS ?_ | refine Rt.tP ?_ | refine Rt.tD ?_ | refine Rt.tM ?_ | refine Rt.tC ?_ | refine Rt.tN ?_ | refine Rt.tA ?_ | refine Rt.tG ?_ | refine Rt.tF ?_ | refine Rt.os ?_ | refine Rt.clS ?_ | refine Rt.jmN ?_ | refine Rt.jbN ?_ | refine Rt.jbE ?_)) | ((with_reducible (first | apply Rt.ld0 | apply Rt.ld1 | apply Rt.ld2 | apply Rt.ld3 | apply Rt.ld4 | apply Rt.ld5)); first | assumption | exact Lc.kp (by assumption) (by assumption)) | ((with_reducible apply Rt.ol); first | assumption | exact cell_kp (by assumption) (by assumption)) | ((with_reducible apply Rt.ckR); focus ((repeat (first | (with_reducible (first | refine Rt.fin ?_ | refine Rt.tL ?_ | refine Rt.tI ?_ | refine Rt.tB ?_ | refine Rt.tS ?_ | refine Rt.tP ?_ | refine Rt.tD ?_ | refine Rt.tM ?_ | refine Rt.tC ?_ | refine Rt.tN ?_ | refine Rt.tA ?_ | refine Rt.tG ?_ | refine Rt.tF ?_ | refine Rt.os ?_ | refine Rt.clS ?_ | refine Rt.jmN ?_ | refine Rt.jbN ?_ | refine Rt.jbE ?_)) | ((with_reducible (first | apply Rt.ld0 | apply Rt.ld1 | apply Rt.ld2 | apply Rt.ld3 | apply Rt.ld4 | apply Rt.ld5)); first | assumption | exact Lc.kp (by assumption) (by assumption)) | ((with_reducible apply Rt.ol); first | assumption | exact cell_kp (by assumption) (by assumption)))); exact Rt.some' rfl))))
  refine Rt.call (int_spec (n := n) hR5 k8 (by omega) hb hi5 hl hn) ?_
  rintro _ w9 ⟨xl, vl, _, i6, e6, g6, hr6, hR6, hi6, G6, bxl, bvl, st6, t6, u6⟩
  cases hr6
  have k9 := tx k8 G6
  (repeat (first | (with_reducible (first | refine Rt.fin ?_ | refine Rt.tL ?_ | refine Rt.tI ?_ | refine Rt.tB ?_ | refine Rt.tS ?_ | refine Rt.tP ?_ | refine Rt.tD ?_ | refine Rt.tM ?_ | refine Rt.tC ?_ | refine Rt.tN ?_ | refine Rt.tA ?_ | refine Rt.tG ?_ | refine Rt.tF ?_ | refine Rt.os ?_ | refine Rt.clS ?_ | refine Rt.jmN ?_ | refine Rt.jbN ?_ | refine Rt.jbE ?_)) | ((with_reducible (first | apply Rt.ld0 | apply Rt.ld1 | apply Rt.ld2 | apply Rt.ld3 | apply Rt.ld4 | apply Rt.ld5)); first | assumption | exact Lc.kp (by assumption) (by assumption)) | ((with_reducible apply Rt.ol); first | assumption | exact cell_kp (by assumption) (by assumption)) | ((with_reducible apply Rt.ckR); focus ((repeat (first | (with_reducible (first | refine Rt.fin ?_ | refine Rt.tL ?_ | refine Rt.tI ?_ | refine Rt.tB ?_ | refine Rt.tS ?_ | refine Rt.tP ?_ | refine Rt.tD ?_ | refine Rt.tM ?_ | refine Rt.tC ?_ | refine Rt.tN ?_ | refine Rt.tA ?_ | refine Rt.tG ?_ | refine Rt.tF ?_ | refine Rt.os ?_ | refine Rt.clS ?_ | refine Rt.jmN ?_ | refine Rt.jbN ?_ | refine Rt.jbE ?_)) | ((with_reducible (first | apply Rt.ld0 | apply Rt.ld1 | apply Rt.ld2 | apply Rt.ld3 | apply Rt.ld4 | apply Rt.ld5)); first | assumption | exact Lc.kp (by assumption) (by assumption)) | ((with_reducible apply Rt.ol); first | assumption | exact cell_kp (by assumption) (by assumption)))); exact Rt.some' rfl))))
  refine Rt.call (number_spec (n := n) hR6 k9 (by omega) hb hi6 hl hn) ?_
  rintro _ w10 ⟨vs, _, i8, e8, hr8, hR8, hi8, G8, bvs, st8⟩
  cases hr8
  have k10 := tx k9 G8
  have GG := (G5.tr G6).tr G8
  have z10 := GG.size
  have lb10 := lb7.gx GG (by omega)
  have lx10 := lx7.gx GG (by omega)
  have drow := o7d.lt
  have o10 := o7.gx GG (fun k _ h => .inl h) fun k hk hv => by have := (orow _ hv).1; omega
  have o10d := o7d.gx GG fun j hj e => by have := (drow j hj).1; omega
  (repeat (first | (with_reducible (first | refine Rt.fin ?_ | refine Rt.tL ?_ | refine Rt.tI ?_ | refine Rt.tB ?_ | refine Rt.tS ?_ | refine Rt.tP ?_ | refine Rt.tD ?_ | refine Rt.tM ?_ | refine Rt.tC ?_ | refine Rt.tN ?_ | refine Rt.tA ?_ | refine Rt.tG ?_ | refine Rt.tF ?_ | refine Rt.os ?_ | refine Rt.clS ?_ | refine Rt.jmN ?_ | refine Rt.jbN ?_ | refine Rt.jbE ?_)) | ((with_reducible (first | apply Rt.ld0 | apply Rt.ld1 | apply Rt.ld2 | apply Rt.ld3 | apply Rt.ld4 | apply Rt.ld5)); first | assumption | exact Lc.kp (by assumption) (by assumption)) | ((with_reducible apply Rt.ol); first | assumption | exact cell_kp (by assumption) (by assumption)) | ((with_reducible apply Rt.ckR); focus ((repeat (first | (with_reducible (first | refine Rt.fin ?_ | refine Rt.tL ?_ | refine Rt.tI ?_ | refine Rt.tB ?_ | refine Rt.tS ?_ | refine Rt.tP ?_ | refine Rt.tD ?_ | refine Rt.tM ?_ | refine Rt.tC ?_ | refine Rt.tN ?_ | refine Rt.tA ?_ | refine Rt.tG ?_ | refine Rt.tF ?_ | refine Rt.os ?_ | refine Rt.clS ?_ | refine Rt.jmN ?_ | refine Rt.jbN ?_ | refine Rt.jbE ?_)) | ((with_reducible (first | apply Rt.ld0 | apply Rt.ld1 | apply Rt.ld2 | apply Rt.ld3 | apply Rt.ld4 | apply Rt.ld5)); first | assumption | exact Lc.kp (by assumption) (by assumption)) | ((with_reducible apply Rt.ol); first | assumption | exact cell_kp (by assumption) (by assumption)))); exact Rt.some' rfl))))
  refine Rt.st2 lx10 fun w11 l11 g11 => Rt.st3 l11 fun w12 l12 g12 => Rt.st4 l12 fun w13 lx13 g13 => ?_
  have gx3 : Gx (fun k => k = xb) w10 w13 := (g11.tr g12).tr g13
  have k13 : Kp w w13 := k10.tx gx3 fun j hj => by omega
  have lb13 := lb10.gx gx3 (by omega)
  have hR13 := hR8.gx gx3 (by omega)
  have o13 := o10.gx gx3 (fun k _ h => .inr (.inr h)) fun k hk hv => by have := (orow _ hv).1; omega
  have o13d := o10d.gx gx3 fun j hj e => by have := (drow j hj).1; omega
  -- what the reading says
  have stR : Stp rawP zs 0 0 i8 e8 ⟨ts', ds', vn, vl, vs⟩ := st1.bind (st2.bind (st3.bind (st4.bind (st5.bind (st6.bind (st8.bind (Stp.ret _)))))))
  have hbig : g6 = true → ¬ rightE ⟨ts', ds', vn, vl, vs⟩ := by
    intro h hr
    obtain ⟨_, _, q3, q4, _, ⟨q6, _⟩, q8, _⟩ := hr
    dsimp only at q3 q4 q6 q8
    rcases u6 h with h | h
    · rcases u5 h with h | h
      · rcases u4 h with h | ⟨r, h1, h2⟩
        · rcases u2 h with h | ⟨r, h1, h2⟩
          · cases h
          · exact h2 (q6 r h1)
        · have := q8 r h1; omega
      · omega
    · omega
  have hsame : g6 = false → ts = ts' ∧ ds = ds' ∧ xn = vn ∧ xl = vl := by
    intro h
    obtain ⟨h1, h2⟩ := t6 h
    obtain ⟨h3, h4⟩ := t5 h1
    obtain ⟨h5, h6⟩ := t4 h3
    obtain ⟨_, h8⟩ := t2 h5
    exact ⟨h8, h6, h4, h2⟩
  clear st1 st2 st3 st4 st5 st6 st8 t2 t4 t5 t6 u2 u4 u5 u6
  have b0lt := lb13.lt
  have none_ : ∀ {w' : World} {ee : Int}, allP editP zs = (ee, default) → Kp w w' → Rt (some (⟨.ret, [ev none 0 0 none 0 0 0 0 0, .int .i64 ee], w'⟩ : Res)) (fun r => r.ex = .ret ∧ REd w (allP editP zs) (r.vals, r.w)) := by
    intro w' ee h hk
    exact Rt.some' ⟨rfl, none, 0, 0, none, 0, 0, w', by rw [h]; rfl, by rw [h]; exact zeroV' w', hk⟩
  (repeat (first | (with_reducible (first | refine Rt.fin ?_ | refine Rt.tL ?_ | refine Rt.tI ?_ | refine Rt.tB ?_ | refine Rt.tS ?_ | refine Rt.tP ?_ | refine Rt.tD ?_ | refine Rt.tM ?_ | refine Rt.tC ?_ | refine Rt.tN ?_ | refine Rt.tA ?_ | refine Rt.tG ?_ | refine Rt.tF ?_ | refine Rt.os ?_ | refine Rt.clS ?_ | refine Rt.jmN ?_ | refine Rt.jbN ?_ | refine Rt.jbE ?_)) | ((with_reducible (first | apply Rt.ld0 | apply Rt.ld1 | apply Rt.ld2 | apply Rt.ld3 | apply Rt.ld4 | apply Rt.ld5)); first | assumption | exact Lc.kp (by assumption) (by assumption)) | ((with_reducible apply Rt.ol); first | assumption | exact cell_kp (by assumption) (by assumption)) | ((with_reducible apply Rt.ckR); focus ((repeat (first | (with_reducible (first | refine Rt.fin ?_ | refine Rt.tL ?_ | refine Rt.tI ?_ | refine Rt.tB ?_ | refine Rt.tS ?_ | refine Rt.tP ?_ | refine Rt.tD ?_ | refine Rt.tM ?_ | refine Rt.tC ?_ | refine Rt.tN ?_ | refine Rt.tA ?_ | refine Rt.tG ?_ | refine Rt.tF ?_ | refine Rt.os ?_ | refine Rt.clS ?_ | refine Rt.jmN ?_ | refine Rt.jbN ?_ | refine Rt.jbE ?_)) | ((with_reducible (first | apply Rt.ld0 | apply Rt.ld1 | apply Rt.ld2 | apply Rt.ld3 | apply Rt.ld4 | apply Rt.ld5)); first | assumption | exact Lc.kp (by assumption) (by assumption)) | ((with_reducible apply Rt.ol); first | assumption | exact cell_kp (by assumption) (by assumption)))); exact Rt.some' rfl))))
  refine Rt.cN (fun h0 => ?_) fun h0 => ?_
  · have hraw := stp_raw stR h0
    (repeat (first | (with_reducible (first | refine Rt.fin ?_ | refine Rt.tL ?_ | refine Rt.tI ?_ | refine Rt.tB ?_ | refine Rt.tS ?_ | refine Rt.tP ?_ | refine Rt.tD ?_ | refine Rt.tM ?_ | refine Rt.tC ?_ | refine Rt.tN ?_ | refine Rt.tA ?_ | refine Rt.tG ?_ | refine Rt.tF ?_ | refine Rt.os ?_ | refine Rt.clS ?_ | refine Rt.jmN ?_ | refine Rt.jbN ?_ | refine Rt.jbE ?_)) | ((with_reducible (first | apply Rt.ld0 | apply Rt.ld1 | apply Rt.ld2 | apply Rt.ld3 | apply Rt.ld4 | apply Rt.ld5)); first | assumption | exact Lc.kp (by assumption) (by assumption)) | ((with_reducible apply Rt.ol); first | assumption | exact cell_kp (by assumption) (by assumption)) | ((with_reducible apply Rt.ckR); focus ((repeat (first | (with_reducible (first | refine Rt.fin ?_ | refine Rt.tL ?_ | refine Rt.tI ?_ | refine Rt.tB ?_ | refine Rt.tS ?_ | refine Rt.tP ?_ | refine Rt.tD ?_ | refine Rt.tM ?_ | refine Rt.tC ?_ | refine Rt.tN ?_ | refine Rt.tA ?_ | refine Rt.tG ?_ | refine Rt.tF ?_ | refine Rt.os ?_ | refine Rt.clS ?_ | refine Rt.jmN ?_ | refine Rt.jbN ?_ | refine Rt.jbE ?_)) | ((with_reducible (first | apply Rt.ld0 | apply Rt.ld1 | apply Rt.ld2 | apply Rt.ld3 | apply Rt.ld4 | apply Rt.ld5)); first | assumption | exact Lc.kp (by assumption) (by assumption)) | ((with_reducible apply Rt.ol); first | assumption | exact cell_kp (by assumption) (by assumption)))); exact Rt.some' rfl))))
    cases g6 with
    | true =>
      refine Rt.cT rfl (Rt.sto5 lb13 fun w14 l14 g14 => ?_)
      (repeat (first | (with_reducible (first | refine Rt.fin ?_ | refine Rt.tL ?_ | refine Rt.tI ?_ | refine Rt.tB ?_ | refine Rt.tS ?_ | refine Rt.tP ?_ | refine Rt.tD ?_ | refine Rt.tM ?_ | refine Rt.tC ?_ | refine Rt.tN ?_ | refine Rt.tA ?_ | refine Rt.tG ?_ | refine Rt.tF ?_ | refine Rt.os ?_ | refine Rt.clS ?_ | refine Rt.jmN ?_ | refine Rt.jbN ?_ | refine Rt.jbE ?_)) | ((with_reducible (first | apply Rt.ld0 | apply Rt.ld1 | apply Rt.ld2 | apply Rt.ld3 | apply Rt.ld4 | apply Rt.ld5)); first | assumption | exact Lc.kp (by assumption) (by assumption)) | ((with_reducible apply Rt.ol); first | assumption | exact cell_kp (by assumption) (by assumption)) | ((with_reducible apply Rt.ckR); focus ((repeat (first | (with_reducible (first | refine Rt.fin ?_ | refine Rt.tL ?_ | refine Rt.tI ?_ | refine Rt.tB ?_ | refine Rt.tS ?_ | refine Rt.tP ?_ | refine Rt.tD ?_ | refine Rt.tM ?_ | refine Rt.tC ?_ | refine Rt.tN ?_ | refine Rt.tA ?_ | refine Rt.tG ?_ | refine Rt.tF ?_ | refine Rt.os ?_ | refine Rt.clS ?_ | refine Rt.jmN ?_ | refine Rt.jbN ?_ | refine Rt.jbE ?_)) | ((with_reducible (first | apply Rt.ld0 | apply Rt.ld1 | apply Rt.ld2 | apply Rt.ld3 | apply Rt.ld4 | apply Rt.ld5)); first | assumption | exact Lc.kp (by assumption) (by assumption)) | ((with_reducible apply Rt.ol); first | assumption | exact cell_kp (by assumption) (by assumption)))); exact Rt.some' rfl))))
      exact none_ (edit_bad hraw (hbig rfl)) (k13.tx g14 fun j hj => by omega)
    | false =>
      obtain ⟨rfl, rfl, rfl, rfl⟩ := hsame rfl
      refine Rt.cF rfl ?_
      (repeat (first | (with_reducible (first | refine Rt.fin ?_ | refine Rt.tL ?_ | refine Rt.tI ?_ | refine Rt.tB ?_ | refine Rt.tS ?_ | refine Rt.tP ?_ | refine Rt.tD ?_ | refine Rt.tM ?_ | refine Rt.tC ?_ | refine Rt.tN ?_ | refine Rt.tA ?_ | refine Rt.tG ?_ | refine Rt.tF ?_ | refine Rt.os ?_ | refine Rt.clS ?_ | refine Rt.jmN ?_ | refine Rt.jbN ?_ | refine Rt.jbE ?_)) | ((with_reducible (first | apply Rt.ld0 | apply Rt.ld1 | apply Rt.ld2 | apply Rt.ld3 | apply Rt.ld4 | apply Rt.ld5)); first | assumption | exact Lc.kp (by assumption) (by assumption)) | ((with_reducible apply Rt.ol); first | assumption | exact cell_kp (by assumption) (by assumption)) | ((with_reducible apply Rt.ckR); focus ((repeat (first | (with_reducible (first | refine Rt.fin ?_ | refine Rt.tL ?_ | refine Rt.tI ?_ | refine Rt.tB ?_ | refine Rt.tS ?_ | refine Rt.tP ?_ | refine Rt.tD ?_ | refine Rt.tM ?_ | refine Rt.tC ?_ | refine Rt.tN ?_ | refine Rt.tA ?_ | refine Rt.tG ?_ | refine Rt.tF ?_ | refine Rt.os ?_ | refine Rt.clS ?_ | refine Rt.jmN ?_ | refine Rt.jbN ?_ | refine Rt.jbE ?_)) | ((with_reducible (first | apply Rt.ld0 | apply Rt.ld1 | apply Rt.ld2 | apply Rt.ld3 | apply Rt.ld4 | apply Rt.ld5)); first | assumption | exact Lc.kp (by assumption) (by assumption)) | ((with_reducible apply Rt.ol); first | assumption | exact cell_kp (by assumption) (by assumption)))); exact Rt.some' rfl))))
      have hEV : EditV w13 R2 ts.length d2 R4 ds.length d4 xn xl vs ⟨ts, ds, xn, xl, vs⟩ := ⟨o13.ownE.ev, o13d.bv fun x hx => i64wf (by have := bd7 x hx; omega), rfl, rfl, rfl, i64wf (by show -2 ^ 63 ≤ xn ∧ xn < 2 ^ 63; omega), i64wf (by show -2 ^ 63 ≤ xl ∧ xl < 2 ^ 63; omega), u64wf bvs⟩
      refine Rt.cBo (Right_spec hEV (by omega)) fun b w14 hb14 k14 => ?_
      have k014 := k13.tr k14
      have lb14 := lb13.kp k14
      have hR14 := Lc.kp hR13 k14
      have lx14 := lx13.kp k14
      cases b with
      | false =>
        refine Rt.cT rfl (Rt.sto5 lb14 fun w15 l15 g15 => ?_)
        (repeat (first | (with_reducible (first | refine Rt.fin ?_ | refine Rt.tL ?_ | refine Rt.tI ?_ | refine Rt.tB ?_ | refine Rt.tS ?_ | refine Rt.tP ?_ | refine Rt.tD ?_ | refine Rt.tM ?_ | refine Rt.tC ?_ | refine Rt.tN ?_ | refine Rt.tA ?_ | refine Rt.tG ?_ | refine Rt.tF ?_ | refine Rt.os ?_ | refine Rt.clS ?_ | refine Rt.jmN ?_ | refine Rt.jbN ?_ | refine Rt.jbE ?_)) | ((with_reducible (first | apply Rt.ld0 | apply Rt.ld1 | apply Rt.ld2 | apply Rt.ld3 | apply Rt.ld4 | apply Rt.ld5)); first | assumption | exact Lc.kp (by assumption) (by assumption)) | ((with_reducible apply Rt.ol); first | assumption | exact cell_kp (by assumption) (by assumption)) | ((with_reducible apply Rt.ckR); focus ((repeat (first | (with_reducible (first | refine Rt.fin ?_ | refine Rt.tL ?_ | refine Rt.tI ?_ | refine Rt.tB ?_ | refine Rt.tS ?_ | refine Rt.tP ?_ | refine Rt.tD ?_ | refine Rt.tM ?_ | refine Rt.tC ?_ | refine Rt.tN ?_ | refine Rt.tA ?_ | refine Rt.tG ?_ | refine Rt.tF ?_ | refine Rt.os ?_ | refine Rt.clS ?_ | refine Rt.jmN ?_ | refine Rt.jbN ?_ | refine Rt.jbE ?_)) | ((with_reducible (first | apply Rt.ld0 | apply Rt.ld1 | apply Rt.ld2 | apply Rt.ld3 | apply Rt.ld4 | apply Rt.ld5)); first | assumption | exact Lc.kp (by assumption) (by assumption)) | ((with_reducible apply Rt.ol); first | assumption | exact cell_kp (by assumption) (by assumption)))); exact Rt.some' rfl))))
        exact none_ (edit_bad hraw fun h => by simpa using hb14.2 h) (k014.tx g15 fun j hj => by omega)
      | true =>
        have hright := hb14.1 rfl
        have hgood := edit_good hraw hright
        refine Rt.cF rfl ?_
        (repeat (first | (with_reducible (first | refine Rt.fin ?_ | refine Rt.tL ?_ | refine Rt.tI ?_ | refine Rt.tB ?_ | refine Rt.tS ?_ | refine Rt.tP ?_ | refine Rt.tD ?_ | refine Rt.tM ?_ | refine Rt.tC ?_ | refine Rt.tN ?_ | refine Rt.tA ?_ | refine Rt.tG ?_ | refine Rt.tF ?_ | refine Rt.os ?_ | refine Rt.clS ?_ | refine Rt.jmN ?_ | refine Rt.jbN ?_ | refine Rt.jbE ?_)) | ((with_reducible (first | apply Rt.ld0 | apply Rt.ld1 | apply Rt.ld2 | apply Rt.ld3 | apply Rt.ld4 | apply Rt.ld5)); first | assumption | exact Lc.kp (by assumption) (by assumption)) | ((with_reducible apply Rt.ol); first | assumption | exact cell_kp (by assumption) (by assumption)) | ((with_reducible apply Rt.ckR); focus ((repeat (first | (with_reducible (first | refine Rt.fin ?_ | refine Rt.tL ?_ | refine Rt.tI ?_ | refine Rt.tB ?_ | refine Rt.tS ?_ | refine Rt.tP ?_ | refine Rt.tD ?_ | refine Rt.tM ?_ | refine Rt.tC ?_ | refine Rt.tN ?_ | refine Rt.tA ?_ | refine Rt.tG ?_ | refine Rt.tF ?_ | refine Rt.os ?_ | refine Rt.clS ?_ | refine Rt.jmN ?_ | refine Rt.jbN ?_ | refine Rt.jbE ?_)) | ((with_reducible (first | apply Rt.ld0 | apply Rt.ld1 | apply Rt.ld2 | apply Rt.ld3 | apply Rt.ld4 | apply Rt.ld5)); first | assumption | exact Lc.kp (by assumption) (by assumption)) | ((with_reducible apply Rt.ol); first | assumption | exact cell_kp (by assumption) (by assumption)))); exact Rt.some' rfl))))
        refine Rt.cD (fun h5 => ?_) fun h5 => ?_
        · rw [if_pos (by omega)] at hgood
          refine Rt.sto5 lb14 fun w15 l15 g15 => ?_
          (repeat (first | (with_reducible (first | refine Rt.fin ?_ | refine Rt.tL ?_ | refine Rt.tI ?_ | refine Rt.tB ?_ | refine Rt.tS ?_ | refine Rt.tP ?_ | refine Rt.tD ?_ | refine Rt.tM ?_ | refine Rt.tC ?_ | refine Rt.tN ?_ | refine Rt.tA ?_ | refine Rt.tG ?_ | refine Rt.tF ?_ | refine Rt.os ?_ | refine Rt.clS ?_ | refine Rt.jmN ?_ | refine Rt.jbN ?_ | refine Rt.jbE ?_)) | ((with_reducible (first | apply Rt.ld0 | apply Rt.ld1 | apply Rt.ld2 | apply Rt.ld3 | apply Rt.ld4 | apply Rt.ld5)); first | assumption | exact Lc.kp (by assumption) (by assumption)) | ((with_reducible apply Rt.ol); first | assumption | exact cell_kp (by assumption) (by assumption)) | ((with_reducible apply Rt.ckR); focus ((repeat (first | (with_reducible (first | refine Rt.fin ?_ | refine Rt.tL ?_ | refine Rt.tI ?_ | refine Rt.tB ?_ | refine Rt.tS ?_ | refine Rt.tP ?_ | refine Rt.tD ?_ | refine Rt.tM ?_ | refine Rt.tC ?_ | refine Rt.tN ?_ | refine Rt.tA ?_ | refine Rt.tG ?_ | refine Rt.tF ?_ | refine Rt.os ?_ | refine Rt.clS ?_ | refine Rt.jmN ?_ | refine Rt.jbN ?_ | refine Rt.jbE ?_)) | ((with_reducible (first | apply Rt.ld0 | apply Rt.ld1 | apply Rt.ld2 | apply Rt.ld3 | apply Rt.ld4 | apply Rt.ld5)); first | assumption | exact Lc.kp (by assumption) (by assumption)) | ((with_reducible apply Rt.ol); first | assumption | exact cell_kp (by assumption) (by assumption)))); exact Rt.some' rfl))))
          exact none_ hgood (k014.tx g15 fun j hj => by omega)
        · rw [if_neg (by omega)] at hgood
          (repeat (first | (with_reducible (first | refine Rt.fin ?_ | refine Rt.tL ?_ | refine Rt.tI ?_ | refine Rt.tB ?_ | refine Rt.tS ?_ | refine Rt.tP ?_ | refine Rt.tD ?_ | refine Rt.tM ?_ | refine Rt.tC ?_ | refine Rt.tN ?_ | refine Rt.tA ?_ | refine Rt.tG ?_ | refine Rt.tF ?_ | refine Rt.os ?_ | refine Rt.clS ?_ | refine Rt.jmN ?_ | refine Rt.jbN ?_ | refine Rt.jbE ?_)) | ((with_reducible (first | apply Rt.ld0 | apply Rt.ld1 | apply Rt.ld2 | apply Rt.ld3 | apply Rt.ld4 | apply Rt.ld5)); first | assumption | exact Lc.kp (by assumption) (by assumption)) | ((with_reducible apply Rt.ol); first | assumption | exact cell_kp (by assumption) (by assumption)) | ((with_reducible apply Rt.ckR); focus ((repeat (first | (with_reducible (first | refine Rt.fin ?_ | refine Rt.tL ?_ | refine Rt.tI ?_ | refine Rt.tB ?_ | refine Rt.tS ?_ | refine Rt.tP ?_ | refine Rt.tD ?_ | refine Rt.tM ?_ | refine Rt.tC ?_ | refine Rt.tN ?_ | refine Rt.tA ?_ | refine Rt.tG ?_ | refine Rt.tF ?_ | refine Rt.os ?_ | refine Rt.clS ?_ | refine Rt.jmN ?_ | refine Rt.jbN ?_ | refine Rt.jbE ?_)) | ((with_reducible (first | apply Rt.ld0 | apply Rt.ld1 | apply Rt.ld2 | apply Rt.ld3 | apply Rt.ld4 | apply Rt.ld5)); first | assumption | exact Lc.kp (by assumption) (by assumption)) | ((with_reducible apply Rt.ol); first | assumption | exact cell_kp (by assumption) (by assumption)))); exact Rt.some' rfl))))
          refine Rt.sto5 lb14 fun w15 l15 g15 => ?_
          (repeat (first | (with_reducible (first | refine Rt.fin ?_ | refine Rt.tL ?_ | refine Rt.tI ?_ | refine Rt.tB ?_ | refine Rt.tS ?_ | refine Rt.tP ?_ | refine Rt.tD ?_ | refine Rt.tM ?_ | refine Rt.tC ?_ | refine Rt.tN ?_ | refine Rt.tA ?_ | refine Rt.tG ?_ | refine Rt.tF ?_ | refine Rt.os ?_ | refine Rt.clS ?_ | refine Rt.jmN ?_ | refine Rt.jbN ?_ | refine Rt.jbE ?_)) | ((with_reducible (first | apply Rt.ld0 | apply Rt.ld1 | apply Rt.ld2 | apply Rt.ld3 | apply Rt.ld4 | apply Rt.ld5)); first | assumption | exact Lc.kp (by assumption) (by assumption)) | ((with_reducible apply Rt.ol); first | assumption | exact cell_kp (by assumption) (by assumption)) | ((with_reducible apply Rt.ckR); focus ((repeat (first | (with_reducible (first | refine Rt.fin ?_ | refine Rt.tL ?_ | refine Rt.tI ?_ | refine Rt.tB ?_ | refine Rt.tS ?_ | refine Rt.tP ?_ | refine Rt.tD ?_ | refine Rt.tM ?_ | refine Rt.tC ?_ | refine Rt.tN ?_ | refine Rt.tA ?_ | refine Rt.tG ?_ | refine Rt.tF ?_ | refine Rt.os ?_ | refine Rt.clS ?_ | refine Rt.jmN ?_ | refine Rt.jbN ?_ | refine Rt.jbE ?_)) | ((with_reducible (first | apply Rt.ld0 | apply Rt.ld1 | apply Rt.ld2 | apply Rt.ld3 | apply Rt.ld4 | apply Rt.ld5)); first | assumption | exact Lc.kp (by assumption) (by assumption)) | ((with_reducible apply Rt.ol); first | assumption | exact cell_kp (by assumption) (by assumption)))); exact Rt.some' rfl))))
          have k15 := k014.tx g15 fun j hj => by omega
          have o14 := o13.kp k14
          have o15 := o14.gx g15 (fun k _ h => .inr (.inl h)) fun k hk hv => by have := (orow _ hv).1; omega
          have o15d := (o13d.kp k14).gx g15 fun j hj e => by have := (drow j hj).1; omega
          refine Rt.some' ⟨rfl, R2, ts.length, d2, R4, ds.length, d4, w15, by rw [hgood], ?_, k15⟩
          rw [hgood]
          exact ⟨o15.ownE.ev, o15d.bv fun x hx => i64wf (by have := bd7 x hx; omega), rfl, rfl, rfl, hEV.rn, hEV.rl, hEV.rs⟩
  · have lb13d := lb13.kp (Kp.rfl' w13).dr
    have hR13d := Lc.kp hR13 (Kp.rfl' w13).dr
    (repeat (first | (with_reducible (first | refine Rt.fin ?_ | refine Rt.tL ?_ | refine Rt.tI ?_ | refine Rt.tB ?_ | refine Rt.tS ?_ | refine Rt.tP ?_ | refine Rt.tD ?_ | refine Rt.tM ?_ | refine Rt.tC ?_ | refine Rt.tN ?_ | refine Rt.tA ?_ | refine Rt.tG ?_ | refine Rt.tF ?_ | refine Rt.os ?_ | refine Rt.clS ?_ | refine Rt.jmN ?_ | refine Rt.jbN ?_ | refine Rt.jbE ?_)) | ((with_reducible (first | apply Rt.ld0 | apply Rt.ld1 | apply Rt.ld2 | apply Rt.ld3 | apply Rt.ld4 | apply Rt.ld5)); first | assumption | exact Lc.kp (by assumption) (by assumption)) | ((with_reducible apply Rt.ol); first | assumption | exact cell_kp (by assumption) (by assumption)) | ((with_reducible apply Rt.ckR); focus ((repeat (first | (with_reducible (first | refine Rt.fin ?_ | refine Rt.tL ?_ | refine Rt.tI ?_ | refine Rt.tB ?_ | refine Rt.tS ?_ | refine Rt.tP ?_ | refine Rt.tD ?_ | refine Rt.tM ?_ | refine Rt.tC ?_ | refine Rt.tN ?_ | refine Rt.tA ?_ | refine Rt.tG ?_ | refine Rt.tF ?_ | refine Rt.os ?_ | refine Rt.clS ?_ | refine Rt.jmN ?_ | refine Rt.jbN ?_ | refine Rt.jbE ?_)) | ((with_reducible (first | apply Rt.ld0 | apply Rt.ld1 | apply Rt.ld2 | apply Rt.ld3 | apply Rt.ld4 | apply Rt.ld5)); first | assumption | exact Lc.kp (by assumption) (by assumption)) | ((with_reducible apply Rt.ol); first | assumption | exact cell_kp (by assumption) (by assumption)))); exact Rt.some' rfl))))
    refine Rt.sto5 lb13d fun w14 l14 g14 => ?_
    have hR14 := hR13d.gx g14 (by omega)
    (repeat (first | (with_reducible (first | refine Rt.fin ?_ | refine Rt.tL ?_ | refine Rt.tI ?_ | refine Rt.tB ?_ | refine Rt.tS ?_ | refine Rt.tP ?_ | refine Rt.tD ?_ | refine Rt.tM ?_ | refine Rt.tC ?_ | refine Rt.tN ?_ | refine Rt.tA ?_ | refine Rt.tG ?_ | refine Rt.tF ?_ | refine Rt.os ?_ | refine Rt.clS ?_ | refine Rt.jmN ?_ | refine Rt.jbN ?_ | refine Rt.jbE ?_)) | ((with_reducible (first | apply Rt.ld0 | apply Rt.ld1 | apply Rt.ld2 | apply Rt.ld3 | apply Rt.ld4 | apply Rt.ld5)); first | assumption | exact Lc.kp (by assumption) (by assumption)) | ((with_reducible apply Rt.ol); first | assumption | exact cell_kp (by assumption) (by assumption)) | ((with_reducible apply Rt.ckR); focus ((repeat (first | (with_reducible (first | refine Rt.fin ?_ | refine Rt.tL ?_ | refine Rt.tI ?_ | refine Rt.tB ?_ | refine Rt.tS ?_ | refine Rt.tP ?_ | refine Rt.tD ?_ | refine Rt.tM ?_ | refine Rt.tC ?_ | refine Rt.tN ?_ | refine Rt.tA ?_ | refine Rt.tG ?_ | refine Rt.tF ?_ | refine Rt.os ?_ | refine Rt.clS ?_ | refine Rt.jmN ?_ | refine Rt.jbN ?_ | refine Rt.jbE ?_)) | ((with_reducible (first | apply Rt.ld0 | apply Rt.ld1 | apply Rt.ld2 | apply Rt.ld3 | apply Rt.ld4 | apply Rt.ld5)); first | assumption | exact Lc.kp (by assumption) (by assumption)) | ((with_reducible apply Rt.ol); first | assumption | exact cell_kp (by assumption) (by assumption)))); exact Rt.some' rfl))))
    exact none_ (edit_err (by rw [← stR.err rfl]) h0) (k13.dr.tx g14 fun j hj => by omega)
end
end Go.Proofs.Ytdnbpgakmbamoaa.Ed
