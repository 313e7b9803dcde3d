/- Edits: how the program reads runs and files. -/
import Derived.Test.YtdnbpgakmbamoaaE7
namespace Go.Proofs.Ytdnbpgakmbamoaa.Ed
open Go Big Go.RowKit Go.IntWalk Cm Var Low Par
set_option linter.unusedVariables false
set_option linter.unusedSimpArgs false
set_option linter.unusedSectionVars false
theorem run_stb {w : World} {S : Nat → Prop} {B C : Option Addr} {d f base : Nat} {x : RunD} (r1 : -2 ^ 63 ≤ x.file ∧ x.file < 2 ^ 63) (r2 : -2 ^ 63 ≤ x.bytes ∧ x.bytes < 2 ^ 63) (r3 : -2 ^ 63 ≤ x.count ∧ x.count < 2 ^ 63) (r4 : 0 ≤ x.seq ∧ x.seq < 2 ^ 64)
    (o1 : Own .u8 5 w base (.slice B x.first.length d) x.first) (o2 : Own .u8 5 w base (.slice C x.last.length f) x.last) (b1 : ∀ z ∈ x.first, (Lit.int .u8 z).wf = true) (b2 : ∀ z ∈ x.last, (Lit.int .u8 z).wf = true) (hS : ∀ j, S j → j < base) :
    Stb S (fun w => runEl.rd w [.int .i64 x.file, .int .i64 x.bytes, .int .i64 x.count, .slice B x.first.length d, .slice C x.last.length f, .int .u64 x.seq] x) w := fun w' hg =>
  ⟨_, _, _, _, _, _, _, _, _, _, rfl, rfl, rfl, rfl, rfl, i64wf r1, i64wf r2, i64wf r3, u64wf r4, (o1.gx hg fun j hj hs => by have := (o1.lt j hj).1; have := hS j hs; omega).bv b1, (o2.gx hg fun j hj hs => by have := (o2.lt j hj).1; have := hS j hs; omega).bv b2⟩
abbrev SX (p b0 xb : Nat) : Nat → Prop := fun k => k = p ∨ k = b0 ∨ k = xb
section
variable {α : Type} {Q : α → Prop} {n : Nat} {w w0 : World} {A B C : Option Addr} {l c m d p i : Nat} {k e : Int} {g : Bool} {bs zs : List Int}
theorem Read_l0 {b0 xb base : Nat} {rest : List Value} {b0c : List Value} (hb : Bv .u8 w0 A l c zs) (hl : l ≤ 2 ^ 38) (hn : 2 ^ 59 < n) (hp : w0.heap.size ≤ p) (hb0 : w0.heap.size ≤ b0) (hxb : w0.heap.size ≤ xb) (hne1 : p ≠ xb) (hne2 : b0 ≠ xb) (hne3 : p ≠ b0) (h1 : p < base) (h2 : b0 < base) (h3 : xb < base) :
    ∀ (q j : Nat) (w : World) (at_ : Nat) (e : Int) (g : Bool) (R : Option Addr) (d : Nat) (rs : List RunD), q < j → Kp w0 w → base ≤ w.heap.size → Rd w p A l c at_ e g → at_ ≤ l → Lc w b0 b0c → Lc w xb (.slice R rs.length d :: rest) → rs.length + q ≤ 1000 →
      OwnX (SX p b0 xb) runEl 33 w base (.slice R rs.length d) rs →
    Rt (edit_Read.l0 n j A l c ⟨b0, 0, none⟩ ⟨p, 0, none⟩ ⟨xb, 0, none⟩ (q : Int) w) fun r => r.ex = .exit 0 ∧ r.vals = [.slice A l c, .pointer (some ⟨b0, 0, none⟩), .pointer (some ⟨p, 0, none⟩), .pointer (some ⟨xb, 0, none⟩)] ∧ Kp w0 r.w ∧ base ≤ r.w.heap.size ∧ Lc r.w b0 b0c ∧
      ∃ a' e' g' R' d' ts ts', Rd r.w p A l c a' e' g' ∧ a' ≤ l ∧ Lc r.w xb (.slice R' (rs ++ ts).length d' :: rest) ∧ OwnX (SX p b0 xb) runEl 33 r.w base (.slice R' (rs ++ ts).length d') (rs ++ ts) ∧ Stp (runsP q) zs at_ e a' e' ts' ∧ (g' = false → g = false ∧ ts = ts') ∧ (g' = true → g = true ∨ ∃ r ∈ ts', ¬ rightR r) ∧ ts.length ≤ q := by
  obtain ⟨ti, tz, hT⟩ := slR
  have hzl := hb.len
  intro q
  induction q with
  | zero =>
    intro j w at_ e g R d rs hj hk hbs hr ha lb0 lxb hrl ho
    obtain ⟨j, rfl⟩ : ∃ j', j = j' + 1 := ⟨j - 1, by omega⟩
    rw [edit_Read.l0_succ]
    exact Rt.cDF (by omega) (Rt.some' ⟨rfl, rfl, hk, hbs, lb0, at_, e, g, R, d, [], [], hr, ha, by rw [List.append_nil]; exact lxb, by rw [List.append_nil]; exact ho, Stp.ret _, (fun h => ⟨h, rfl⟩), (fun h => .inl h), Nat.le_refl _⟩)
  | succ q ih =>
    intro j w at_ e g R d rs hj hk hbs hr ha lb0 lxb hrl ho
    obtain ⟨j, rfl⟩ : ∃ j', j = j' + 1 := ⟨j - 1, by omega⟩
    rw [edit_Read.l0_succ]
    refine Rt.cDT (by omega) ?_
    (repeat (first | (with_reducible (first | refine Rt.fin ?_ | refine Rt.tL ?_ | refine Rt.tI ?_ | refine Rt.tB ?_ | refine Rt.tS ?_ | refine Rt.tP ?_ | refine Rt.tD ?_ | refine Rt.tM ?_ | refine Rt.tC ?_ | refine Rt.tN ?_ | refine Rt.tA ?_ | refine Rt.tG ?_ | refine Rt.tF ?_ | refine Rt.os ?_ | refine Rt.clS ?_ | refine Rt.jmN ?_ | refine Rt.jbN ?_ | refine Rt.jbE ?_)) | ((with_reducible (first | apply Rt.ld0 | apply Rt.ld1 | apply Rt.ld2 | apply Rt.ld3 | apply Rt.ld4 | apply Rt.ld5)); first | assumption | exact Lc.kp (by assumption) (by assumption)) | ((with_reducible apply Rt.ol); first | assumption | exact cell_kp (by assumption) (by assumption)) | ((with_reducible apply Rt.ckR); focus ((repeat (first | (with_reducible (first | refine Rt.fin ?_ | refine Rt.tL ?_ | refine Rt.tI ?_ | refine Rt.tB ?_ | refine Rt.tS ?_ | refine Rt.tP ?_ | refine Rt.tD ?_ | refine Rt.tM ?_ | refine Rt.tC ?_ | refine Rt.tN ?_ | refine Rt.tA ?_ | refine Rt.tG ?_ | refine Rt.tF ?_ | refine Rt.os ?_ | refine Rt.clS ?_ | refine Rt.jmN ?_ | refine Rt.jbN ?_ | refine Rt.jbE ?_)) | ((with_reducible (first | apply Rt.ld0 | apply Rt.ld1 | apply Rt.ld2 | apply Rt.ld3 | apply Rt.ld4 | apply Rt.ld5)); first | assumption | exact Lc.kp (by assumption) (by assumption)) | ((with_reducible apply Rt.ol); first | assumption | exact cell_kp (by assumption) (by assumption)))); exact Rt.some' rfl))))
    refine Rt.cQ (fun he => ?_) fun he => Rt.some' ⟨rfl, rfl, hk, hbs, lb0, at_, e, g, R, d, [], [], hr, ha, by rw [List.append_nil]; exact lxb, by rw [List.append_nil]; exact ho, ⟨fun _ => rfl, fun h => absurd h he, fun h => absurd h he⟩, (fun h => ⟨h, rfl⟩), (fun h => .inl h), Nat.zero_le _⟩
    subst he
    have d1 : Kp w w.drew := (Kp.rfl' w).dr
    have lxbd := lxb.kp d1
    (repeat (first | (with_reducible (first | refine Rt.fin ?_ | refine Rt.tL ?_ | refine Rt.tI ?_ | refine Rt.tB ?_ | refine Rt.tS ?_ | refine Rt.tP ?_ | refine Rt.tD ?_ | refine Rt.tM ?_ | refine Rt.tC ?_ | refine Rt.tN ?_ | refine Rt.tA ?_ | refine Rt.tG ?_ | refine Rt.tF ?_ | refine Rt.os ?_ | refine Rt.clS ?_ | refine Rt.jmN ?_ | refine Rt.jbN ?_ | refine Rt.jbE ?_)) | ((with_reducible (first | apply Rt.ld0 | apply Rt.ld1 | apply Rt.ld2 | apply Rt.ld3 | apply Rt.ld4 | apply Rt.ld5)); first | assumption | exact Lc.kp (by assumption) (by assumption)) | ((with_reducible apply Rt.ol); first | assumption | exact cell_kp (by assumption) (by assumption)) | ((with_reducible apply Rt.ckR); focus ((repeat (first | (with_reducible (first | refine Rt.fin ?_ | refine Rt.tL ?_ | refine Rt.tI ?_ | refine Rt.tB ?_ | refine Rt.tS ?_ | refine Rt.tP ?_ | refine Rt.tD ?_ | refine Rt.tM ?_ | refine Rt.tC ?_ | refine Rt.tN ?_ | refine Rt.tA ?_ | refine Rt.tG ?_ | refine Rt.tF ?_ | refine Rt.os ?_ | refine Rt.clS ?_ | refine Rt.jmN ?_ | refine Rt.jbN ?_ | refine Rt.jbE ?_)) | ((with_reducible (first | apply Rt.ld0 | apply Rt.ld1 | apply Rt.ld2 | apply Rt.ld3 | apply Rt.ld4 | apply Rt.ld5)); first | assumption | exact Lc.kp (by assumption) (by assumption)) | ((with_reducible apply Rt.ol); first | assumption | exact cell_kp (by assumption) (by assumption)))); exact Rt.some' rfl))))
    have hrd := Lc.kp hr d1
    have k0 := hk.tr d1
    have hxl := lxb.lt
    have hsd : w.drew.heap.size = w.heap.size := rfl
    have tx : ∀ {w1 w2 : World}, Kp w0 w1 → Gx (fun k => k = p) w1 w2 → Kp w0 w2 := fun k g => k.tx g fun j hj => by omega
    refine Rt.call (int_spec (n := n) hrd k0 hp hb ha hl hn) ?_
    rintro _ w1 ⟨xf, vf, _, i1, e1, g1, hr1, hR1, hi1, G1, bf, bvf, st1, t1, u1⟩
    cases hr1
    have k1 := tx k0 G1
    have lx1 := lxbd.gx G1 (fun h => hne1 h.symm)
    (repeat (first | (with_reducible (first | refine Rt.fin ?_ | refine Rt.tL ?_ | refine Rt.tI ?_ | refine Rt.tB ?_ | refine Rt.tS ?_ | refine Rt.tP ?_ | refine Rt.tD ?_ | refine Rt.tM ?_ | refine Rt.tC ?_ | refine Rt.tN ?_ | refine Rt.tA ?_ | refine Rt.tG ?_ | refine Rt.tF ?_ | refine Rt.os ?_ | refine Rt.clS ?_ | refine Rt.jmN ?_ | refine Rt.jbN ?_ | refine Rt.jbE ?_)) | ((with_reducible (first | apply Rt.ld0 | apply Rt.ld1 | apply Rt.ld2 | apply Rt.ld3 | apply Rt.ld4 | apply Rt.ld5)); first | assumption | exact Lc.kp (by assumption) (by assumption)) | ((with_reducible apply Rt.ol); first | assumption | exact cell_kp (by assumption) (by assumption)) | ((with_reducible apply Rt.ckR); focus ((repeat (first | (with_reducible (first | refine Rt.fin ?_ | refine Rt.tL ?_ | refine Rt.tI ?_ | refine Rt.tB ?_ | refine Rt.tS ?_ | refine Rt.tP ?_ | refine Rt.tD ?_ | refine Rt.tM ?_ | refine Rt.tC ?_ | refine Rt.tN ?_ | refine Rt.tA ?_ | refine Rt.tG ?_ | refine Rt.tF ?_ | refine Rt.os ?_ | refine Rt.clS ?_ | refine Rt.jmN ?_ | refine Rt.jbN ?_ | refine Rt.jbE ?_)) | ((with_reducible (first | apply Rt.ld0 | apply Rt.ld1 | apply Rt.ld2 | apply Rt.ld3 | apply Rt.ld4 | apply Rt.ld5)); first | assumption | exact Lc.kp (by assumption) (by assumption)) | ((with_reducible apply Rt.ol); first | assumption | exact cell_kp (by assumption) (by assumption)))); exact Rt.some' rfl))))
    refine Rt.call (int_spec (n := n) hR1 k1 hp hb hi1 hl hn) ?_
    rintro _ w2 ⟨xy, vy, _, i2, e2, g2, hr2, hR2, hi2, G2, by_, bvy, st2, t2, u2⟩
    cases hr2
    have k2 := tx k1 G2
    have lx2 := lx1.gx G2 (fun h => hne1 h.symm)
    (repeat (first | (with_reducible (first | refine Rt.fin ?_ | refine Rt.tL ?_ | refine Rt.tI ?_ | refine Rt.tB ?_ | refine Rt.tS ?_ | refine Rt.tP ?_ | refine Rt.tD ?_ | refine Rt.tM ?_ | refine Rt.tC ?_ | refine Rt.tN ?_ | refine Rt.tA ?_ | refine Rt.tG ?_ | refine Rt.tF ?_ | refine Rt.os ?_ | refine Rt.clS ?_ | refine Rt.jmN ?_ | refine Rt.jbN ?_ | refine Rt.jbE ?_)) | ((with_reducible (first | apply Rt.ld0 | apply Rt.ld1 | apply Rt.ld2 | apply Rt.ld3 | apply Rt.ld4 | apply Rt.ld5)); first | assumption | exact Lc.kp (by assumption) (by assumption)) | ((with_reducible apply Rt.ol); first | assumption | exact cell_kp (by assumption) (by assumption)) | ((with_reducible apply Rt.ckR); focus ((repeat (first | (with_reducible (first | refine Rt.fin ?_ | refine Rt.tL ?_ | refine Rt.tI ?_ | refine Rt.tB ?_ | refine Rt.tS ?_ | refine Rt.tP ?_ | refine Rt.tD ?_ | refine Rt.tM ?_ | refine Rt.tC ?_ | refine Rt.tN ?_ | refine Rt.tA ?_ | refine Rt.tG ?_ | refine Rt.tF ?_ | refine Rt.os ?_ | refine Rt.clS ?_ | refine Rt.jmN ?_ | refine Rt.jbN ?_ | refine Rt.jbE ?_)) | ((with_reducible (first | apply Rt.ld0 | apply Rt.ld1 | apply Rt.ld2 | apply Rt.ld3 | apply Rt.ld4 | apply Rt.ld5)); first | assumption | exact Lc.kp (by assumption) (by assumption)) | ((with_reducible apply Rt.ol); first | assumption | exact cell_kp (by assumption) (by assumption)))); exact Rt.some' rfl))))
    refine Rt.call (int_spec (n := n) hR2 k2 hp hb hi2 hl hn) ?_
    rintro _ w3 ⟨xc, vc, _, i3, e3, g3, hr3, hR3, hi3, G3, bc, bvc, st3, t3, u3⟩
    cases hr3
    have k3 := tx k2 G3
    have lx3 := lx2.gx G3 (fun h => hne1 h.symm)
    (repeat (first | (with_reducible (first | refine Rt.fin ?_ | refine Rt.tL ?_ | refine Rt.tI ?_ | refine Rt.tB ?_ | refine Rt.tS ?_ | refine Rt.tP ?_ | refine Rt.tD ?_ | refine Rt.tM ?_ | refine Rt.tC ?_ | refine Rt.tN ?_ | refine Rt.tA ?_ | refine Rt.tG ?_ | refine Rt.tF ?_ | refine Rt.os ?_ | refine Rt.clS ?_ | refine Rt.jmN ?_ | refine Rt.jbN ?_ | refine Rt.jbE ?_)) | ((with_reducible (first | apply Rt.ld0 | apply Rt.ld1 | apply Rt.ld2 | apply Rt.ld3 | apply Rt.ld4 | apply Rt.ld5)); first | assumption | exact Lc.kp (by assumption) (by assumption)) | ((with_reducible apply Rt.ol); first | assumption | exact cell_kp (by assumption) (by assumption)) | ((with_reducible apply Rt.ckR); focus ((repeat (first | (with_reducible (first | refine Rt.fin ?_ | refine Rt.tL ?_ | refine Rt.tI ?_ | refine Rt.tB ?_ | refine Rt.tS ?_ | refine Rt.tP ?_ | refine Rt.tD ?_ | refine Rt.tM ?_ | refine Rt.tC ?_ | refine Rt.tN ?_ | refine Rt.tA ?_ | refine Rt.tG ?_ | refine Rt.tF ?_ | refine Rt.os ?_ | refine Rt.clS ?_ | refine Rt.jmN ?_ | refine Rt.jbN ?_ | refine Rt.jbE ?_)) | ((with_reducible (first | apply Rt.ld0 | apply Rt.ld1 | apply Rt.ld2 | apply Rt.ld3 | apply Rt.ld4 | apply Rt.ld5)); first | assumption | exact Lc.kp (by assumption) (by assumption)) | ((with_reducible apply Rt.ol); first | assumption | exact cell_kp (by assumption) (by assumption)))); exact Rt.some' rfl))))
    refine Rt.call (text_spec (n := n) hR3 k3 hp hb hi3 hl hn) ?_
    rintro _ w4 ⟨B, d4, first, _, i4, e4, hr4, hR4, hi4, G4, o4, bfi, st4⟩
    cases hr4
    have k4 := tx k3 G4
    have lx4 := lx3.gx G4 (fun h => hne1 h.symm)
    (repeat (first | (with_reducible (first | refine Rt.fin ?_ | refine Rt.tL ?_ | refine Rt.tI ?_ | refine Rt.tB ?_ | refine Rt.tS ?_ | refine Rt.tP ?_ | refine Rt.tD ?_ | refine Rt.tM ?_ | refine Rt.tC ?_ | refine Rt.tN ?_ | refine Rt.tA ?_ | refine Rt.tG ?_ | refine Rt.tF ?_ | refine Rt.os ?_ | refine Rt.clS ?_ | refine Rt.jmN ?_ | refine Rt.jbN ?_ | refine Rt.jbE ?_)) | ((with_reducible (first | apply Rt.ld0 | apply Rt.ld1 | apply Rt.ld2 | apply Rt.ld3 | apply Rt.ld4 | apply Rt.ld5)); first | assumption | exact Lc.kp (by assumption) (by assumption)) | ((with_reducible apply Rt.ol); first | assumption | exact cell_kp (by assumption) (by assumption)) | ((with_reducible apply Rt.ckR); focus ((repeat (first | (with_reducible (first | refine Rt.fin ?_ | refine Rt.tL ?_ | refine Rt.tI ?_ | refine Rt.tB ?_ | refine Rt.tS ?_ | refine Rt.tP ?_ | refine Rt.tD ?_ | refine Rt.tM ?_ | refine Rt.tC ?_ | refine Rt.tN ?_ | refine Rt.tA ?_ | refine Rt.tG ?_ | refine Rt.tF ?_ | refine Rt.os ?_ | refine Rt.clS ?_ | refine Rt.jmN ?_ | refine Rt.jbN ?_ | refine Rt.jbE ?_)) | ((with_reducible (first | apply Rt.ld0 | apply Rt.ld1 | apply Rt.ld2 | apply Rt.ld3 | apply Rt.ld4 | apply Rt.ld5)); first | assumption | exact Lc.kp (by assumption) (by assumption)) | ((with_reducible apply Rt.ol); first | assumption | exact cell_kp (by assumption) (by assumption)))); exact Rt.some' rfl))))
    refine Rt.call (text_spec (n := n) hR4 k4 hp hb hi4 hl hn) ?_
    rintro _ w5 ⟨C, d5, last, _, i5, e5, hr5, hR5, hi5, G5, o5, bla, st5⟩
    cases hr5
    have k5 := tx k4 G5
    have lx5 := lx4.gx G5 (fun h => hne1 h.symm)
    (repeat (first | (with_reducible (first | refine Rt.fin ?_ | refine Rt.tL ?_ | refine Rt.tI ?_ | refine Rt.tB ?_ | refine Rt.tS ?_ | refine Rt.tP ?_ | refine Rt.tD ?_ | refine Rt.tM ?_ | refine Rt.tC ?_ | refine Rt.tN ?_ | refine Rt.tA ?_ | refine Rt.tG ?_ | refine Rt.tF ?_ | refine Rt.os ?_ | refine Rt.clS ?_ | refine Rt.jmN ?_ | refine Rt.jbN ?_ | refine Rt.jbE ?_)) | ((with_reducible (first | apply Rt.ld0 | apply Rt.ld1 | apply Rt.ld2 | apply Rt.ld3 | apply Rt.ld4 | apply Rt.ld5)); first | assumption | exact Lc.kp (by assumption) (by assumption)) | ((with_reducible apply Rt.ol); first | assumption | exact cell_kp (by assumption) (by assumption)) | ((with_reducible apply Rt.ckR); focus ((repeat (first | (with_reducible (first | refine Rt.fin ?_ | refine Rt.tL ?_ | refine Rt.tI ?_ | refine Rt.tB ?_ | refine Rt.tS ?_ | refine Rt.tP ?_ | refine Rt.tD ?_ | refine Rt.tM ?_ | refine Rt.tC ?_ | refine Rt.tN ?_ | refine Rt.tA ?_ | refine Rt.tG ?_ | refine Rt.tF ?_ | refine Rt.os ?_ | refine Rt.clS ?_ | refine Rt.jmN ?_ | refine Rt.jbN ?_ | refine Rt.jbE ?_)) | ((with_reducible (first | apply Rt.ld0 | apply Rt.ld1 | apply Rt.ld2 | apply Rt.ld3 | apply Rt.ld4 | apply Rt.ld5)); first | assumption | exact Lc.kp (by assumption) (by assumption)) | ((with_reducible apply Rt.ol); first | assumption | exact cell_kp (by assumption) (by assumption)))); exact Rt.some' rfl))))
    refine Rt.call (number_spec (n := n) hR5 k5 hp hb hi5 hl hn) ?_
    rintro _ w6 ⟨vs, _, i6, e6, hr6, hR6, hi6, G6, bs6, st6⟩
    cases hr6
    have k6 := tx k5 G6
    have lx6 := lx5.gx G6 (fun h => hne1 h.symm)
    have GG : Gx (fun k => k = p) w.drew w6 := ((((G1.tr G2).tr G3).tr G4).tr G5).tr G6
    have z1 := G1.size
    have z2 := G2.size
    have z3 := G3.size
    have z4 := G4.size
    have z5 := G5.size
    have z6 := G6.size
    have lb6 := (lb0.kp d1).gx GG (fun h => hne3 h.symm)
    have hrowlt := ho.lt
    have o6 := (ho.kp d1).gx GG (fun k _ h => .inl h) fun k hk1 hv => by have := (hrowlt _ hv).1; omega
    have of6 := ((o4.gx G5 fun j hj e => by have := (o4.lt j hj).1; omega).gx G6 fun j hj e => by have := (o4.lt j hj).1; omega).mono (base' := w.heap.size) (by omega)
    have ol6 := (o5.gx G6 fun j hj e => by have := (o5.lt j hj).1; omega).mono (base' := w.heap.size) (by omega)
    (repeat (first | (with_reducible (first | refine Rt.fin ?_ | refine Rt.tL ?_ | refine Rt.tI ?_ | refine Rt.tB ?_ | refine Rt.tS ?_ | refine Rt.tP ?_ | refine Rt.tD ?_ | refine Rt.tM ?_ | refine Rt.tC ?_ | refine Rt.tN ?_ | refine Rt.tA ?_ | refine Rt.tG ?_ | refine Rt.tF ?_ | refine Rt.os ?_ | refine Rt.clS ?_ | refine Rt.jmN ?_ | refine Rt.jbN ?_ | refine Rt.jbE ?_)) | ((with_reducible (first | apply Rt.ld0 | apply Rt.ld1 | apply Rt.ld2 | apply Rt.ld3 | apply Rt.ld4 | apply Rt.ld5)); first | assumption | exact Lc.kp (by assumption) (by assumption)) | ((with_reducible apply Rt.ol); first | assumption | exact cell_kp (by assumption) (by assumption)) | ((with_reducible apply Rt.ckR); focus ((repeat (first | (with_reducible (first | refine Rt.fin ?_ | refine Rt.tL ?_ | refine Rt.tI ?_ | refine Rt.tB ?_ | refine Rt.tS ?_ | refine Rt.tP ?_ | refine Rt.tD ?_ | refine Rt.tM ?_ | refine Rt.tC ?_ | refine Rt.tN ?_ | refine Rt.tA ?_ | refine Rt.tG ?_ | refine Rt.tF ?_ | refine Rt.os ?_ | refine Rt.clS ?_ | refine Rt.jmN ?_ | refine Rt.jbN ?_ | refine Rt.jbE ?_)) | ((with_reducible (first | apply Rt.ld0 | apply Rt.ld1 | apply Rt.ld2 | apply Rt.ld3 | apply Rt.ld4 | apply Rt.ld5)); first | assumption | exact Lc.kp (by assumption) (by assumption)) | ((with_reducible apply Rt.ol); first | assumption | exact cell_kp (by assumption) (by assumption)))); exact Rt.some' rfl))))
    refine Rt.al fun w7 l7 k7 s7 => ?_
    have lx7 := lx6.kp k7
    (repeat (first | (with_reducible (first | refine Rt.fin ?_ | refine Rt.tL ?_ | refine Rt.tI ?_ | refine Rt.tB ?_ | refine Rt.tS ?_ | refine Rt.tP ?_ | refine Rt.tD ?_ | refine Rt.tM ?_ | refine Rt.tC ?_ | refine Rt.tN ?_ | refine Rt.tA ?_ | refine Rt.tG ?_ | refine Rt.tF ?_ | refine Rt.os ?_ | refine Rt.clS ?_ | refine Rt.jmN ?_ | refine Rt.jbN ?_ | refine Rt.jbE ?_)) | ((with_reducible (first | apply Rt.ld0 | apply Rt.ld1 | apply Rt.ld2 | apply Rt.ld3 | apply Rt.ld4 | apply Rt.ld5)); first | assumption | exact Lc.kp (by assumption) (by assumption)) | ((with_reducible apply Rt.ol); first | assumption | exact cell_kp (by assumption) (by assumption)) | ((with_reducible apply Rt.ckR); focus ((repeat (first | (with_reducible (first | refine Rt.fin ?_ | refine Rt.tL ?_ | refine Rt.tI ?_ | refine Rt.tB ?_ | refine Rt.tS ?_ | refine Rt.tP ?_ | refine Rt.tD ?_ | refine Rt.tM ?_ | refine Rt.tC ?_ | refine Rt.tN ?_ | refine Rt.tA ?_ | refine Rt.tG ?_ | refine Rt.tF ?_ | refine Rt.os ?_ | refine Rt.clS ?_ | refine Rt.jmN ?_ | refine Rt.jbN ?_ | refine Rt.jbE ?_)) | ((with_reducible (first | apply Rt.ld0 | apply Rt.ld1 | apply Rt.ld2 | apply Rt.ld3 | apply Rt.ld4 | apply Rt.ld5)); first | assumption | exact Lc.kp (by assumption) (by assumption)) | ((with_reducible apply Rt.ol); first | assumption | exact cell_kp (by assumption) (by assumption)))); exact Rt.some' rfl))))
    have hstb := run_stb (w := w6) (S := fun k => SX p b0 xb k ∨ On (.slice R rs.length d) k) (x := ⟨xf, xy, xc, first, last, vs⟩) (by show -2 ^ 63 ≤ xf ∧ xf < 2 ^ 63; omega) (by show -2 ^ 63 ≤ xy ∧ xy < 2 ^ 63; omega) (by show -2 ^ 63 ≤ xc ∧ xc < 2 ^ 63; omega) bs6 of6 ol6 bfi bla (fun j hj => by
      rcases hj with (h | h | h) | h
      · omega
      · omega
      · omega
      · exact (hrowlt _ h).2)
    refine Rt.app1L rfl hT (o6.kp k7) l7 rfl (hstb.kp k7) (by omega) (by have := k7.size; omega) fun R' d' w8 o8 g8 s8 => ?_
    (repeat (first | (with_reducible (first | refine Rt.fin ?_ | refine Rt.tL ?_ | refine Rt.tI ?_ | refine Rt.tB ?_ | refine Rt.tS ?_ | refine Rt.tP ?_ | refine Rt.tD ?_ | refine Rt.tM ?_ | refine Rt.tC ?_ | refine Rt.tN ?_ | refine Rt.tA ?_ | refine Rt.tG ?_ | refine Rt.tF ?_ | refine Rt.os ?_ | refine Rt.clS ?_ | refine Rt.jmN ?_ | refine Rt.jbN ?_ | refine Rt.jbE ?_)) | ((with_reducible (first | apply Rt.ld0 | apply Rt.ld1 | apply Rt.ld2 | apply Rt.ld3 | apply Rt.ld4 | apply Rt.ld5)); first | assumption | exact Lc.kp (by assumption) (by assumption)) | ((with_reducible apply Rt.ol); first | assumption | exact cell_kp (by assumption) (by assumption)) | ((with_reducible apply Rt.ckR); focus ((repeat (first | (with_reducible (first | refine Rt.fin ?_ | refine Rt.tL ?_ | refine Rt.tI ?_ | refine Rt.tB ?_ | refine Rt.tS ?_ | refine Rt.tP ?_ | refine Rt.tD ?_ | refine Rt.tM ?_ | refine Rt.tC ?_ | refine Rt.tN ?_ | refine Rt.tA ?_ | refine Rt.tG ?_ | refine Rt.tF ?_ | refine Rt.os ?_ | refine Rt.clS ?_ | refine Rt.jmN ?_ | refine Rt.jbN ?_ | refine Rt.jbE ?_)) | ((with_reducible (first | apply Rt.ld0 | apply Rt.ld1 | apply Rt.ld2 | apply Rt.ld3 | apply Rt.ld4 | apply Rt.ld5)); first | assumption | exact Lc.kp (by assumption) (by assumption)) | ((with_reducible apply Rt.ol); first | assumption | exact cell_kp (by assumption) (by assumption)))); exact Rt.some' rfl))))
    have hne : ∀ b, (b = p ∨ b = b0 ∨ b = xb) → ¬ On (.slice R rs.length d) b := fun b hb' h => by have := (hrowlt _ h).1; omega
    have lx8 := lx7.gx g8 (hne xb (by omega))
    refine Rt.st0 lx8 fun w9 lx9 g9 => ?_
    have hR9 := ((Lc.kp hR6 k7).gx g8 (hne p (by omega))).gx g9 (by omega)
    have lb9 := ((lb6.kp k7).gx g8 (hne b0 (by omega))).gx g9 hne2
    have k9 : Kp w0 w9 := ((k6.tr k7).tx g8 (fun j hj => by have := (hrowlt _ hj).1; have := hk.size; omega)).tx g9 fun j hj => by omega
    have o9 := o8.gx g9 (fun k _ h => .inr (.inr h)) fun k hk' hv => by have := (o8.lt _ hv).1; omega
    have z7 := k7.size
    have z9 := g9.size
    have el : (rs ++ [(⟨xf, xy, xc, first, last, vs⟩ : RunD)]).length = rs.length + 1 := by simp
    rw [i64_in _ (by omega), show (((q + 1 : Nat) : Int) - 1) = ((q : Nat) : Int) by omega]
    refine Rt.mono (ih j w9 i6 e6 g3 R' d' (rs ++ [⟨xf, xy, xc, first, last, vs⟩]) (by omega) k9 (by omega) hR9 hi6 lb9 (by rw [el]; exact lx9) (by rw [el]; omega) (by rw [el]; exact o9)) ?_
    rintro ⟨ex, vs', w10⟩ ⟨f1, f2, f3, f30, f4, a', e', g', R2, d2, ts, ts', f5, f6, f7, f8, f9, f10, f11, f12⟩
    dsimp only at f1 f2 f3 f30 f4 f5 f7 f8
    have st : Stp runP zs at_ 0 i6 e6 ⟨vf, vy, vc, first, last, vs⟩ := st1.bind (st2.bind (st3.bind (st4.bind (st5.bind (st6.bind (Stp.ret _))))))
    refine ⟨f1, f2, f3, f30, f4, a', e', g', R2, d2, ⟨xf, xy, xc, first, last, vs⟩ :: ts, ⟨vf, vy, vc, first, last, vs⟩ :: ts', f5, f6, ?_, ?_, st.bind (f9.bind (Stp.ret _)), fun h => ?_, fun h => ?_, by simp; omega⟩
    · rw [List.append_assoc] at f7; exact f7
    · rw [List.append_assoc] at f8; exact f8
    · obtain ⟨y1, y2⟩ := f10 h
      obtain ⟨y3, y4⟩ := t3 y1
      obtain ⟨y5, y6⟩ := t2 y3
      obtain ⟨y7, y8⟩ := t1 y5
      exact ⟨y7, by rw [y2, y4, y6, y8]⟩
    · have big : vf > 2 ^ 40 ∨ vy > 2 ^ 40 ∨ vc > 2 ^ 40 → ∃ r ∈ (⟨vf, vy, vc, first, last, vs⟩ :: ts' : List RunD), ¬ rightR r := fun hbig => ⟨_, List.mem_cons_self, fun hr => by
        unfold rightR at hr
        obtain ⟨⟨_, q1⟩, ⟨_, q2⟩, ⟨_, q3⟩, _⟩ := hr
        dsimp only at q1 q2 q3
        omega⟩
      rcases f11 h with h | ⟨r, hr1, hr2⟩
      · rcases u3 h with h | h
        · rcases u2 h with h | h
          · rcases u1 h with h | h
            · exact .inl h
            · exact .inr (big (.inl h))
          · exact .inr (big (.inr (.inl h)))
        · exact .inr (big (.inr (.inr h)))
      · exact .inr ⟨r, List.mem_cons_of_mem _ hr1, hr2⟩
theorem Read_l1 {b0 xb base : Nat} {X : Value} {rest : List Value} {b0c : List Value} (hb : Bv .u8 w0 A l c zs) (hl : l ≤ 2 ^ 38) (hn : 2 ^ 59 < n) (hp : w0.heap.size ≤ p) (hb0 : w0.heap.size ≤ b0) (hxb : w0.heap.size ≤ xb) (hne1 : p ≠ xb) (hne2 : b0 ≠ xb) (hne3 : p ≠ b0) (h1 : p < base) (h2 : b0 < base) (h3 : xb < base) :
    ∀ (q j : Nat) (w : World) (at_ : Nat) (e : Int) (g : Bool) (R : Option Addr) (d : Nat) (rs : List Int), q < j → Kp w0 w → base ≤ w.heap.size → Rd w p A l c at_ e g → at_ ≤ l → Lc w b0 b0c → Lc w xb (X :: .slice R rs.length d :: rest) → rs.length + q ≤ 1000 →
      Own .i64 3 w base (.slice R rs.length d) rs → (∀ z ∈ rs, 0 ≤ z ∧ z ≤ 2 ^ 62) →
    Rt (edit_Read.l1 n j A l c ⟨b0, 0, none⟩ ⟨p, 0, none⟩ ⟨xb, 0, none⟩ (q : Int) w) fun r => r.ex = .exit 2 ∧ r.vals = [.slice A l c, .pointer (some ⟨b0, 0, none⟩), .pointer (some ⟨p, 0, none⟩), .pointer (some ⟨xb, 0, none⟩)] ∧ Kp w0 r.w ∧ Gx (fun k => SX p b0 xb k ∨ On (.slice R rs.length d) k) w r.w ∧ Lc r.w b0 b0c ∧
      ∃ a' e' g' R' d' ts ts', Rd r.w p A l c a' e' g' ∧ a' ≤ l ∧ Lc r.w xb (X :: .slice R' (rs ++ ts).length d' :: rest) ∧ Own .i64 3 r.w base (.slice R' (rs ++ ts).length d') (rs ++ ts) ∧ (∀ z ∈ rs ++ ts, 0 ≤ z ∧ z ≤ 2 ^ 62) ∧ Stp (numsP q) zs at_ e a' e' ts' ∧ (g' = false → g = false ∧ ts = ts') ∧ (g' = true → g = true ∨ ∃ r ∈ ts', r > 2 ^ 40) ∧ ts.length ≤ q := by
  obtain ⟨ti, hT⟩ := slI
  have hzl := hb.len
  intro q
  induction q with
  | zero =>
    intro j w at_ e g R d rs hj hk hbs hr ha lb0 lxb hrl ho hz
    obtain ⟨j, rfl⟩ : ∃ j', j = j' + 1 := ⟨j - 1, by omega⟩
    rw [edit_Read.l1_succ]
    exact Rt.cDF (by omega) (Rt.some' ⟨rfl, rfl, hk, Gx.rfl' _ _, lb0, at_, e, g, R, d, [], [], hr, ha, by rw [List.append_nil]; exact lxb, by rw [List.append_nil]; exact ho, by rw [List.append_nil]; exact hz, Stp.ret _, (fun h => ⟨h, rfl⟩), (fun h => .inl h), Nat.le_refl _⟩)
  | succ q ih =>
    intro j w at_ e g R d rs hj hk hbs hr ha lb0 lxb hrl ho hz
    obtain ⟨j, rfl⟩ : ∃ j', j = j' + 1 := ⟨j - 1, by omega⟩
    rw [edit_Read.l1_succ]
    refine Rt.cDT (by omega) ?_
    (repeat (first | (with_reducible (first | refine Rt.fin ?_ | refine Rt.tL ?_ | refine Rt.tI ?_ | refine Rt.tB ?_ | refine Rt.tS ?_ | refine Rt.tP ?_ | refine Rt.tD ?_ | refine Rt.tM ?_ | refine Rt.tC ?_ | refine Rt.tN ?_ | refine Rt.tA ?_ | refine Rt.tG ?_ | refine Rt.tF ?_ | refine Rt.os ?_ | refine Rt.clS ?_ | refine Rt.jmN ?_ | refine Rt.jbN ?_ | refine Rt.jbE ?_)) | ((with_reducible (first | apply Rt.ld0 | apply Rt.ld1 | apply Rt.ld2 | apply Rt.ld3 | apply Rt.ld4 | apply Rt.ld5)); first | assumption | exact Lc.kp (by assumption) (by assumption)) | ((with_reducible apply Rt.ol); first | assumption | exact cell_kp (by assumption) (by assumption)) | ((with_reducible apply Rt.ckR); focus ((repeat (first | (with_reducible (first | refine Rt.fin ?_ | refine Rt.tL ?_ | refine Rt.tI ?_ | refine Rt.tB ?_ | refine Rt.tS ?_ | refine Rt.tP ?_ | refine Rt.tD ?_ | refine Rt.tM ?_ | refine Rt.tC ?_ | refine Rt.tN ?_ | refine Rt.tA ?_ | refine Rt.tG ?_ | refine Rt.tF ?_ | refine Rt.os ?_ | refine Rt.clS ?_ | refine Rt.jmN ?_ | refine Rt.jbN ?_ | refine Rt.jbE ?_)) | ((with_reducible (first | apply Rt.ld0 | apply Rt.ld1 | apply Rt.ld2 | apply Rt.ld3 | apply Rt.ld4 | apply Rt.ld5)); first | assumption | exact Lc.kp (by assumption) (by assumption)) | ((with_reducible apply Rt.ol); first | assumption | exact cell_kp (by assumption) (by assumption)))); exact Rt.some' rfl))))
    refine Rt.cQ (fun he => ?_) fun he => Rt.some' ⟨rfl, rfl, hk, Gx.rfl' _ _, lb0, at_, e, g, R, d, [], [], hr, ha, by rw [List.append_nil]; exact lxb, by rw [List.append_nil]; exact ho, by rw [List.append_nil]; exact hz, ⟨fun _ => rfl, fun h => absurd h he, fun h => absurd h he⟩, (fun h => ⟨h, rfl⟩), (fun h => .inl h), Nat.zero_le _⟩
    subst he
    have d1 : Kp w w.drew := (Kp.rfl' w).dr
    have lxbd := lxb.kp d1
    (repeat (first | (with_reducible (first | refine Rt.fin ?_ | refine Rt.tL ?_ | refine Rt.tI ?_ | refine Rt.tB ?_ | refine Rt.tS ?_ | refine Rt.tP ?_ | refine Rt.tD ?_ | refine Rt.tM ?_ | refine Rt.tC ?_ | refine Rt.tN ?_ | refine Rt.tA ?_ | refine Rt.tG ?_ | refine Rt.tF ?_ | refine Rt.os ?_ | refine Rt.clS ?_ | refine Rt.jmN ?_ | refine Rt.jbN ?_ | refine Rt.jbE ?_)) | ((with_reducible (first | apply Rt.ld0 | apply Rt.ld1 | apply Rt.ld2 | apply Rt.ld3 | apply Rt.ld4 | apply Rt.ld5)); first | assumption | exact Lc.kp (by assumption) (by assumption)) | ((with_reducible apply Rt.ol); first | assumption | exact cell_kp (by assumption) (by assumption)) | ((with_reducible apply Rt.ckR); focus ((repeat (first | (with_reducible (first | refine Rt.fin ?_ | refine Rt.tL ?_ | refine Rt.tI ?_ | refine Rt.tB ?_ | refine Rt.tS ?_ | refine Rt.tP ?_ | refine Rt.tD ?_ | refine Rt.tM ?_ | refine Rt.tC ?_ | refine Rt.tN ?_ | refine Rt.tA ?_ | refine Rt.tG ?_ | refine Rt.tF ?_ | refine Rt.os ?_ | refine Rt.clS ?_ | refine Rt.jmN ?_ | refine Rt.jbN ?_ | refine Rt.jbE ?_)) | ((with_reducible (first | apply Rt.ld0 | apply Rt.ld1 | apply Rt.ld2 | apply Rt.ld3 | apply Rt.ld4 | apply Rt.ld5)); first | assumption | exact Lc.kp (by assumption) (by assumption)) | ((with_reducible apply Rt.ol); first | assumption | exact cell_kp (by assumption) (by assumption)))); exact Rt.some' rfl))))
    have hrd := Lc.kp hr d1
    have k0 := hk.tr d1
    have hxl := lxb.lt
    have hsd : w.drew.heap.size = w.heap.size := rfl
    have hrowlt := ho.lt
    refine Rt.call (int_spec (n := n) hrd k0 hp hb ha hl hn) ?_
    rintro _ w1 ⟨xf, vf, _, i1, e1, g1, hr1, hR1, hi1, G1, bf, bvf, st1, t1, u1⟩
    cases hr1
    have k1 := k0.tx G1 fun j hj => by omega
    have lx1 := lxbd.gx G1 (fun h => hne1 h.symm)
    have lb1 := (lb0.kp d1).gx G1 (fun h => hne3 h.symm)
    have o1 := ho.dr.gx G1 fun j hj e => by have := (hrowlt _ hj).1; omega
    have z1 := G1.size
    (repeat (first | (with_reducible (first | refine Rt.fin ?_ | refine Rt.tL ?_ | refine Rt.tI ?_ | refine Rt.tB ?_ | refine Rt.tS ?_ | refine Rt.tP ?_ | refine Rt.tD ?_ | refine Rt.tM ?_ | refine Rt.tC ?_ | refine Rt.tN ?_ | refine Rt.tA ?_ | refine Rt.tG ?_ | refine Rt.tF ?_ | refine Rt.os ?_ | refine Rt.clS ?_ | refine Rt.jmN ?_ | refine Rt.jbN ?_ | refine Rt.jbE ?_)) | ((with_reducible (first | apply Rt.ld0 | apply Rt.ld1 | apply Rt.ld2 | apply Rt.ld3 | apply Rt.ld4 | apply Rt.ld5)); first | assumption | exact Lc.kp (by assumption) (by assumption)) | ((with_reducible apply Rt.ol); first | assumption | exact cell_kp (by assumption) (by assumption)) | ((with_reducible apply Rt.ckR); focus ((repeat (first | (with_reducible (first | refine Rt.fin ?_ | refine Rt.tL ?_ | refine Rt.tI ?_ | refine Rt.tB ?_ | refine Rt.tS ?_ | refine Rt.tP ?_ | refine Rt.tD ?_ | refine Rt.tM ?_ | refine Rt.tC ?_ | refine Rt.tN ?_ | refine Rt.tA ?_ | refine Rt.tG ?_ | refine Rt.tF ?_ | refine Rt.os ?_ | refine Rt.clS ?_ | refine Rt.jmN ?_ | refine Rt.jbN ?_ | refine Rt.jbE ?_)) | ((with_reducible (first | apply Rt.ld0 | apply Rt.ld1 | apply Rt.ld2 | apply Rt.ld3 | apply Rt.ld4 | apply Rt.ld5)); first | assumption | exact Lc.kp (by assumption) (by assumption)) | ((with_reducible apply Rt.ol); first | assumption | exact cell_kp (by assumption) (by assumption)))); exact Rt.some' rfl))))
    refine Rt.al fun w7 l7 k7 s7 => ?_
    have lx7 := lx1.kp k7
    have z7 := k7.size
    (repeat (first | (with_reducible (first | refine Rt.fin ?_ | refine Rt.tL ?_ | refine Rt.tI ?_ | refine Rt.tB ?_ | refine Rt.tS ?_ | refine Rt.tP ?_ | refine Rt.tD ?_ | refine Rt.tM ?_ | refine Rt.tC ?_ | refine Rt.tN ?_ | refine Rt.tA ?_ | refine Rt.tG ?_ | refine Rt.tF ?_ | refine Rt.os ?_ | refine Rt.clS ?_ | refine Rt.jmN ?_ | refine Rt.jbN ?_ | refine Rt.jbE ?_)) | ((with_reducible (first | apply Rt.ld0 | apply Rt.ld1 | apply Rt.ld2 | apply Rt.ld3 | apply Rt.ld4 | apply Rt.ld5)); first | assumption | exact Lc.kp (by assumption) (by assumption)) | ((with_reducible apply Rt.ol); first | assumption | exact cell_kp (by assumption) (by assumption)) | ((with_reducible apply Rt.ckR); focus ((repeat (first | (with_reducible (first | refine Rt.fin ?_ | refine Rt.tL ?_ | refine Rt.tI ?_ | refine Rt.tB ?_ | refine Rt.tS ?_ | refine Rt.tP ?_ | refine Rt.tD ?_ | refine Rt.tM ?_ | refine Rt.tC ?_ | refine Rt.tN ?_ | refine Rt.tA ?_ | refine Rt.tG ?_ | refine Rt.tF ?_ | refine Rt.os ?_ | refine Rt.clS ?_ | refine Rt.jmN ?_ | refine Rt.jbN ?_ | refine Rt.jbE ?_)) | ((with_reducible (first | apply Rt.ld0 | apply Rt.ld1 | apply Rt.ld2 | apply Rt.ld3 | apply Rt.ld4 | apply Rt.ld5)); first | assumption | exact Lc.kp (by assumption) (by assumption)) | ((with_reducible apply Rt.ol); first | assumption | exact cell_kp (by assumption) (by assumption)))); exact Rt.some' rfl))))
    refine Rt.push hT (o1.kp k7) l7 (by omega) (by omega) fun R' d' w8 o8 fo8 g8 => ?_
    (repeat (first | (with_reducible (first | refine Rt.fin ?_ | refine Rt.tL ?_ | refine Rt.tI ?_ | refine Rt.tB ?_ | refine Rt.tS ?_ | refine Rt.tP ?_ | refine Rt.tD ?_ | refine Rt.tM ?_ | refine Rt.tC ?_ | refine Rt.tN ?_ | refine Rt.tA ?_ | refine Rt.tG ?_ | refine Rt.tF ?_ | refine Rt.os ?_ | refine Rt.clS ?_ | refine Rt.jmN ?_ | refine Rt.jbN ?_ | refine Rt.jbE ?_)) | ((with_reducible (first | apply Rt.ld0 | apply Rt.ld1 | apply Rt.ld2 | apply Rt.ld3 | apply Rt.ld4 | apply Rt.ld5)); first | assumption | exact Lc.kp (by assumption) (by assumption)) | ((with_reducible apply Rt.ol); first | assumption | exact cell_kp (by assumption) (by assumption)) | ((with_reducible apply Rt.ckR); focus ((repeat (first | (with_reducible (first | refine Rt.fin ?_ | refine Rt.tL ?_ | refine Rt.tI ?_ | refine Rt.tB ?_ | refine Rt.tS ?_ | refine Rt.tP ?_ | refine Rt.tD ?_ | refine Rt.tM ?_ | refine Rt.tC ?_ | refine Rt.tN ?_ | refine Rt.tA ?_ | refine Rt.tG ?_ | refine Rt.tF ?_ | refine Rt.os ?_ | refine Rt.clS ?_ | refine Rt.jmN ?_ | refine Rt.jbN ?_ | refine Rt.jbE ?_)) | ((with_reducible (first | apply Rt.ld0 | apply Rt.ld1 | apply Rt.ld2 | apply Rt.ld3 | apply Rt.ld4 | apply Rt.ld5)); first | assumption | exact Lc.kp (by assumption) (by assumption)) | ((with_reducible apply Rt.ol); first | assumption | exact cell_kp (by assumption) (by assumption)))); exact Rt.some' rfl))))
    have hne : ∀ b, (b = p ∨ b = b0 ∨ b = xb) → ¬ On (.slice R rs.length d) b := fun b hb' h => by have := (hrowlt _ h).1; omega
    have lx8 := lx7.gx g8 (hne xb (by omega))
    have z8 := g8.size
    refine Rt.st1 lx8 fun w9 lx9 g9 => ?_
    have hR9 := ((Lc.kp hR1 k7).gx g8 (hne p (by omega))).gx g9 (by omega)
    have lb9 := ((lb1.kp k7).gx g8 (hne b0 (by omega))).gx g9 hne2
    have k9 : Kp w0 w9 := ((k1.tr k7).tx g8 (fun j hj => by have := (hrowlt _ hj).1; have := hk.size; omega)).tx g9 fun j hj => by omega
    have o9 := o8.gx g9 fun j hj e => by have := (o8.lt _ hj).1; omega
    have z9 := g9.size
    have el : (rs ++ [xf]).length = rs.length + 1 := by simp
    have G9 : Gx (fun k => SX p b0 xb k ∨ On (.slice R rs.length d) k) w w9 := (((d1.gx.tr (G1.wide fun j _ h => .inl (.inl h))).tr k7.gx).tr (g8.wide fun j _ h => .inr h)).tr (g9.wide fun j _ h => .inl (.inr (.inr h)))
    rw [i64_in _ (by omega), show (((q + 1 : Nat) : Int) - 1) = ((q : Nat) : Int) by omega]
    refine Rt.mono (ih j w9 i1 e1 g1 R' d' (rs ++ [xf]) (by omega) k9 (by omega) hR9 hi1 lb9 (by rw [el]; exact lx9) (by rw [el]; omega) (by rw [el]; exact o9) (fun z hz' => by
      rcases List.mem_append.1 hz' with h | h
      · exact hz z h
      · rw [List.mem_singleton] at h; subst h; omega)) ?_
    rintro ⟨ex, vs', w10⟩ ⟨f1, f2, f3, f30, f4, a', e', g', R2, d2, ts, ts', f5, f6, f7, f8, f80, f9, f10, f11, f12⟩
    dsimp only at f1 f2 f3 f30 f4 f5 f7 f8
    refine ⟨f1, f2, f3, ?_, f4, a', e', g', R2, d2, xf :: ts, vf :: ts', f5, f6, ?_, ?_, ?_, st1.bind (f9.bind (Stp.ret _)), fun h => ?_, fun h => ?_, by simp; omega⟩
    · refine G9.tr' f30 fun j hj h => ?_
      rcases h with h | h
      · exact .inl h
      · rw [el] at h
        exact (fo8 j h).elim .inr fun h' => by omega
    · rw [List.append_assoc] at f7; exact f7
    · rw [List.append_assoc] at f8; exact f8
    · rw [List.append_assoc] at f80; exact f80
    · obtain ⟨y1, y2⟩ := f10 h
      obtain ⟨y3, y4⟩ := t1 y1
      exact ⟨y3, by rw [y2, y4]⟩
    · rcases f11 h with h | ⟨r, hr1, hr2⟩
      · rcases u1 h with h | h
        · exact .inl h
        · exact .inr ⟨vf, List.mem_cons_self, h⟩
      · exact .inr ⟨r, List.mem_cons_of_mem _ hr1, hr2⟩
end
end Go.Proofs.Ytdnbpgakmbamoaa.Ed
