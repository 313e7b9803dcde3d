/- Edits: how the definition reads runs and files. -/
import Derived.Test.YtdnbpgakmbamoaaE10
namespace Go.Proofs.Ytdnbpgakmbamoaa.Ed
open Go Big Go.RowKit Go.IntWalk Cm Var Low Par
set_option linter.unusedVariables false
set_option linter.unusedSimpArgs false
set_option linter.unusedSectionVars false
def SimL (xs xs' : List RunD) : Prop := xs = xs' ∨ ((∃ r ∈ xs, ¬ rightR r) ∧ ∃ r ∈ xs', ¬ rightR r)
def SimD (xs xs' : List Int) : Prop := xs = xs' ∨ ((∃ r ∈ xs, r > 2 ^ 40) ∧ ∃ r ∈ xs', r > 2 ^ 40)
theorem SimL.cons {x x' : RunD} {xs xs' : List RunD} (h1 : x = x' ∨ (¬ rightR x ∧ ¬ rightR x')) (h2 : SimL xs xs') : SimL (x :: xs) (x' :: xs') := by
  rcases h1 with rfl | ⟨h1, h1'⟩
  · rcases h2 with rfl | ⟨⟨r, hr, hr'⟩, s, hs, hs'⟩
    · exact .inl rfl
    · exact .inr ⟨⟨r, List.mem_cons_of_mem _ hr, hr'⟩, s, List.mem_cons_of_mem _ hs, hs'⟩
  · exact .inr ⟨⟨x, List.mem_cons_self, h1⟩, x', List.mem_cons_self, h1'⟩
theorem SimD.cons {x x' : Int} {xs xs' : List Int} (h1 : J x x') (h2 : SimD xs xs') : SimD (x :: xs) (x' :: xs') := by
  rcases h1 with rfl | ⟨h1, h1'⟩
  · rcases h2 with rfl | ⟨⟨r, hr, hr'⟩, s, hs, hs'⟩
    · exact .inl rfl
    · exact .inr ⟨⟨r, List.mem_cons_of_mem _ hr, hr'⟩, s, List.mem_cons_of_mem _ hs, hs'⟩
  · exact .inr ⟨⟨x, List.mem_cons_self, by omega⟩, x', List.mem_cons_self, by omega⟩
theorem sim_run {f b c f' b' c' : Int} {x y : List Int} {s : Int} (h1 : J f f') (h2 : J b b') (h3 : J c c') : (⟨f, b, c, x, y, s⟩ : RunD) = ⟨f', b', c', x, y, s⟩ ∨ (¬ rightR ⟨f, b, c, x, y, s⟩ ∧ ¬ rightR ⟨f', b', c', x, y, s⟩) := by
  have no : ∀ {f b c : Int}, (f ≥ 2 ^ 62 ∨ b ≥ 2 ^ 62 ∨ c ≥ 2 ^ 62) → ¬ rightR ⟨f, b, c, x, y, s⟩ := fun h hr => by
    obtain ⟨⟨_, q1⟩, ⟨_, q2⟩, ⟨_, q3⟩, _⟩ := hr
    dsimp only at q1 q2 q3
    omega
  rcases h1 with rfl | ⟨h1, h1'⟩
  · rcases h2 with rfl | ⟨h2, h2'⟩
    · rcases h3 with rfl | ⟨h3, h3'⟩
      · exact .inl rfl
      · exact .inr ⟨no (by omega), no (by omega)⟩
    · exact .inr ⟨no (by omega), no (by omega)⟩
  · exact .inr ⟨no (by omega), no (by omega)⟩
section
variable {α : Type} {Q : α → Prop} {n : Nat} {w w0 : World} {A B C : Option Addr} {l c m d p i : Nat} {k e : Int} {bs zs : List Int}
theorem RRead_l0 {b0 xb base nn : Nat} {rest : List Value} {b0c : List Value} (hb : Bv .u8 w0 A l c zs) (hl : l ≤ 2 ^ 38) (hn : 2 ^ 59 < n) (hp : w0.heap.size ≤ p) (hb0 : w0.heap.size ≤ b0) (hxb : w0.heap.size ≤ xb) (hne1 : p ≠ xb) (hne2 : b0 ≠ xb) (hne3 : p ≠ b0) (h1 : p < base) (h2 : b0 < base) (h3 : xb < base) (hnn : nn ≤ 1000) :
    ∀ (q i j : Nat) (w : World) (at_ : Nat) (e : Int) (R : Option Addr) (d : Nat) (rs : List RunD), i + q = nn → q < j → Kp w0 w → base ≤ w.heap.size → Rr w p A l c at_ e → at_ ≤ l → Lc w b0 b0c → Lc w xb (.slice R rs.length d :: rest) → rs.length + q ≤ 1000 →
      OwnX (SX p b0 xb) runEl 33 w base (.slice R rs.length d) rs →
    Rt (butteryref16_ReadEdit.l0 n j A l c ⟨b0, 0, none⟩ ⟨p, 0, none⟩ ⟨xb, 0, none⟩ (nn : Int) (i : Int) w) fun r => r.ex = .exit 0 ∧ r.vals = [.slice A l c, .pointer (some ⟨b0, 0, none⟩), .pointer (some ⟨p, 0, none⟩), .pointer (some ⟨xb, 0, none⟩)] ∧ Kp w0 r.w ∧ base ≤ r.w.heap.size ∧ Lc r.w b0 b0c ∧
      ∃ a' e' R' d' ts ts', Rr r.w p A l c a' e' ∧ a' ≤ l ∧ Lc r.w xb (.slice R' (rs ++ ts).length d' :: rest) ∧ OwnX (SX p b0 xb) runEl 33 r.w base (.slice R' (rs ++ ts).length d') (rs ++ ts) ∧ Stp (runsP q) zs at_ e a' e' ts' ∧ SimL ts ts' ∧ ts.length ≤ q := by
  obtain ⟨ti, tz, hT⟩ := slR
  have hzl := hb.len
  intro q
  induction q with
  | zero =>
    intro i j w at_ e R d rs hi hj hk hbs hr ha lb0 lxb hrl ho
    obtain ⟨j, rfl⟩ : ∃ j', j = j' + 1 := ⟨j - 1, by omega⟩
    rw [butteryref16_ReadEdit.l0_succ]
    exact Rt.cDF (by omega) (Rt.some' ⟨rfl, rfl, hk, hbs, lb0, at_, e, R, d, [], [], hr, ha, by rw [List.append_nil]; exact lxb, by rw [List.append_nil]; exact ho, Stp.ret _, .inl rfl, Nat.le_refl _⟩)
  | succ q ih =>
    intro i j w at_ e R d rs hi hj hk hbs hr ha lb0 lxb hrl ho
    obtain ⟨j, rfl⟩ : ∃ j', j = j' + 1 := ⟨j - 1, by omega⟩
    rw [butteryref16_ReadEdit.l0_succ]
    refine Rt.cDT (by omega) ?_
    (repeat (first | (with_reducible (first | refine Rt.fin ?_ | refine Rt.tL ?_ | refine Rt.tI ?_ | refine Rt.tB ?_ | refine Rt.tS ?_ | refine Rt.tP ?_ | refine Rt.tD ?_ | refine Rt.tM ?_ | refine Rt.tC ?_ | refine Rt.tN ?_ | refine Rt.tA ?_ | refine Rt.tG ?_ | refine Rt.tF ?_ | refine Rt.os ?_ | refine Rt.clS ?_ | refine Rt.jmN ?_ | refine Rt.jbN ?_ | refine Rt.jbE ?_)) | ((with_reducible (first | apply Rt.ld0 | apply Rt.ld1 | apply Rt.ld2 | apply Rt.ld3 | apply Rt.ld4 | apply Rt.ld5)); first | assumption | exact Lc.kp (by assumption) (by assumption)) | ((with_reducible apply Rt.ol); first | assumption | exact cell_kp (by assumption) (by assumption)) | ((with_reducible apply Rt.ckR); focus ((repeat (first | (with_reducible (first | refine Rt.fin ?_ | refine Rt.tL ?_ | refine Rt.tI ?_ | refine Rt.tB ?_ | refine Rt.tS ?_ | refine Rt.tP ?_ | refine Rt.tD ?_ | refine Rt.tM ?_ | refine Rt.tC ?_ | refine Rt.tN ?_ | refine Rt.tA ?_ | refine Rt.tG ?_ | refine Rt.tF ?_ | refine Rt.os ?_ | refine Rt.clS ?_ | refine Rt.jmN ?_ | refine Rt.jbN ?_ | refine Rt.jbE ?_)) | ((with_reducible (first | apply Rt.ld0 | apply Rt.ld1 | apply Rt.ld2 | apply Rt.ld3 | apply Rt.ld4 | apply Rt.ld5)); first | assumption | exact Lc.kp (by assumption) (by assumption)) | ((with_reducible apply Rt.ol); first | assumption | exact cell_kp (by assumption) (by assumption)))); exact Rt.some' rfl))))
    refine Rt.cQ (fun he => ?_) fun he => Rt.some' ⟨rfl, rfl, hk, hbs, lb0, at_, e, R, d, [], [], hr, ha, by rw [List.append_nil]; exact lxb, by rw [List.append_nil]; exact ho, ⟨fun _ => rfl, fun h => absurd h he, fun h => absurd h he⟩, .inl rfl, Nat.zero_le _⟩
    subst he
    have hxl := lxb.lt
    have tx : ∀ {w1 w2 : World}, Kp w0 w1 → Gx (fun k => k = p) w1 w2 → Kp w0 w2 := fun k g => k.tx g fun j hj => by omega
    refine Rt.call (Rint_spec (n := n) hr hk hp hb ha hl hn) ?_
    rintro _ w1 ⟨xf, vf, _, i1, e1, hr1, hR1, hi1, G1, bf, bvf, st1, t1⟩
    cases hr1
    have k1 := tx hk G1
    (repeat (first | (with_reducible (first | refine Rt.fin ?_ | refine Rt.tL ?_ | refine Rt.tI ?_ | refine Rt.tB ?_ | refine Rt.tS ?_ | refine Rt.tP ?_ | refine Rt.tD ?_ | refine Rt.tM ?_ | refine Rt.tC ?_ | refine Rt.tN ?_ | refine Rt.tA ?_ | refine Rt.tG ?_ | refine Rt.tF ?_ | refine Rt.os ?_ | refine Rt.clS ?_ | refine Rt.jmN ?_ | refine Rt.jbN ?_ | refine Rt.jbE ?_)) | ((with_reducible (first | apply Rt.ld0 | apply Rt.ld1 | apply Rt.ld2 | apply Rt.ld3 | apply Rt.ld4 | apply Rt.ld5)); first | assumption | exact Lc.kp (by assumption) (by assumption)) | ((with_reducible apply Rt.ol); first | assumption | exact cell_kp (by assumption) (by assumption)) | ((with_reducible apply Rt.ckR); focus ((repeat (first | (with_reducible (first | refine Rt.fin ?_ | refine Rt.tL ?_ | refine Rt.tI ?_ | refine Rt.tB ?_ | refine Rt.tS ?_ | refine Rt.tP ?_ | refine Rt.tD ?_ | refine Rt.tM ?_ | refine Rt.tC ?_ | refine Rt.tN ?_ | refine Rt.tA ?_ | refine Rt.tG ?_ | refine Rt.tF ?_ | refine Rt.os ?_ | refine Rt.clS ?_ | refine Rt.jmN ?_ | refine Rt.jbN ?_ | refine Rt.jbE ?_)) | ((with_reducible (first | apply Rt.ld0 | apply Rt.ld1 | apply Rt.ld2 | apply Rt.ld3 | apply Rt.ld4 | apply Rt.ld5)); first | assumption | exact Lc.kp (by assumption) (by assumption)) | ((with_reducible apply Rt.ol); first | assumption | exact cell_kp (by assumption) (by assumption)))); exact Rt.some' rfl))))
    refine Rt.call (Rint_spec (n := n) hR1 k1 hp hb hi1 hl hn) ?_
    rintro _ w2 ⟨xy, vy, _, i2, e2, hr2, hR2, hi2, G2, by_, bvy, st2, t2⟩
    cases hr2
    have k2 := tx k1 G2
    (repeat (first | (with_reducible (first | refine Rt.fin ?_ | refine Rt.tL ?_ | refine Rt.tI ?_ | refine Rt.tB ?_ | refine Rt.tS ?_ | refine Rt.tP ?_ | refine Rt.tD ?_ | refine Rt.tM ?_ | refine Rt.tC ?_ | refine Rt.tN ?_ | refine Rt.tA ?_ | refine Rt.tG ?_ | refine Rt.tF ?_ | refine Rt.os ?_ | refine Rt.clS ?_ | refine Rt.jmN ?_ | refine Rt.jbN ?_ | refine Rt.jbE ?_)) | ((with_reducible (first | apply Rt.ld0 | apply Rt.ld1 | apply Rt.ld2 | apply Rt.ld3 | apply Rt.ld4 | apply Rt.ld5)); first | assumption | exact Lc.kp (by assumption) (by assumption)) | ((with_reducible apply Rt.ol); first | assumption | exact cell_kp (by assumption) (by assumption)) | ((with_reducible apply Rt.ckR); focus ((repeat (first | (with_reducible (first | refine Rt.fin ?_ | refine Rt.tL ?_ | refine Rt.tI ?_ | refine Rt.tB ?_ | refine Rt.tS ?_ | refine Rt.tP ?_ | refine Rt.tD ?_ | refine Rt.tM ?_ | refine Rt.tC ?_ | refine Rt.tN ?_ | refine Rt.tA ?_ | refine Rt.tG ?_ | refine Rt.tF ?_ | refine Rt.os ?_ | refine Rt.clS ?_ | refine Rt.jmN ?_ | refine Rt.jbN ?_ | refine Rt.jbE ?_)) | ((with_reducible (first | apply Rt.ld0 | apply Rt.ld1 | apply Rt.ld2 | apply Rt.ld3 | apply Rt.ld4 | apply Rt.ld5)); first | assumption | exact Lc.kp (by assumption) (by assumption)) | ((with_reducible apply Rt.ol); first | assumption | exact cell_kp (by assumption) (by assumption)))); exact Rt.some' rfl))))
    refine Rt.call (Rint_spec (n := n) hR2 k2 hp hb hi2 hl hn) ?_
    rintro _ w3 ⟨xc, vc, _, i3, e3, hr3, hR3, hi3, G3, bc, bvc, st3, t3⟩
    cases hr3
    have k3 := tx k2 G3
    have GA := (G1.tr G2).tr G3
    have zA := GA.size
    (repeat (first | (with_reducible (first | refine Rt.fin ?_ | refine Rt.tL ?_ | refine Rt.tI ?_ | refine Rt.tB ?_ | refine Rt.tS ?_ | refine Rt.tP ?_ | refine Rt.tD ?_ | refine Rt.tM ?_ | refine Rt.tC ?_ | refine Rt.tN ?_ | refine Rt.tA ?_ | refine Rt.tG ?_ | refine Rt.tF ?_ | refine Rt.os ?_ | refine Rt.clS ?_ | refine Rt.jmN ?_ | refine Rt.jbN ?_ | refine Rt.jbE ?_)) | ((with_reducible (first | apply Rt.ld0 | apply Rt.ld1 | apply Rt.ld2 | apply Rt.ld3 | apply Rt.ld4 | apply Rt.ld5)); first | assumption | exact Lc.kp (by assumption) (by assumption)) | ((with_reducible apply Rt.ol); first | assumption | exact cell_kp (by assumption) (by assumption)) | ((with_reducible apply Rt.ckR); focus ((repeat (first | (with_reducible (first | refine Rt.fin ?_ | refine Rt.tL ?_ | refine Rt.tI ?_ | refine Rt.tB ?_ | refine Rt.tS ?_ | refine Rt.tP ?_ | refine Rt.tD ?_ | refine Rt.tM ?_ | refine Rt.tC ?_ | refine Rt.tN ?_ | refine Rt.tA ?_ | refine Rt.tG ?_ | refine Rt.tF ?_ | refine Rt.os ?_ | refine Rt.clS ?_ | refine Rt.jmN ?_ | refine Rt.jbN ?_ | refine Rt.jbE ?_)) | ((with_reducible (first | apply Rt.ld0 | apply Rt.ld1 | apply Rt.ld2 | apply Rt.ld3 | apply Rt.ld4 | apply Rt.ld5)); first | assumption | exact Lc.kp (by assumption) (by assumption)) | ((with_reducible apply Rt.ol); first | assumption | exact cell_kp (by assumption) (by assumption)))); exact Rt.some' rfl))))
    refine Rt.al6 fun w4 lx4 k4 s4 => ?_
    have hR4 := Lc.kp hR3 k4
    have k04 := k3.tr k4
    have z4 := k4.size
    have hrowlt := ho.lt
    generalize hxr : w3.heap.size = xr at *
    refine Rt.call (Rbytes_spec (n := n) hR4 k04 hp hb hi3 hl hn) ?_
    rintro _ w5 ⟨B, d5, first, _, i4, e4, hr4, hR5, hi4, G5, of5, bfi, st4⟩
    cases hr4
    have k05 := tx k04 G5
    have z5 := G5.size
    have lx5 := lx4.gx G5 (by omega)
    (repeat (first | (with_reducible (first | refine Rt.fin ?_ | refine Rt.tL ?_ | refine Rt.tI ?_ | refine Rt.tB ?_ | refine Rt.tS ?_ | refine Rt.tP ?_ | refine Rt.tD ?_ | refine Rt.tM ?_ | refine Rt.tC ?_ | refine Rt.tN ?_ | refine Rt.tA ?_ | refine Rt.tG ?_ | refine Rt.tF ?_ | refine Rt.os ?_ | refine Rt.clS ?_ | refine Rt.jmN ?_ | refine Rt.jbN ?_ | refine Rt.jbE ?_)) | ((with_reducible (first | apply Rt.ld0 | apply Rt.ld1 | apply Rt.ld2 | apply Rt.ld3 | apply Rt.ld4 | apply Rt.ld5)); first | assumption | exact Lc.kp (by assumption) (by assumption)) | ((with_reducible apply Rt.ol); first | assumption | exact cell_kp (by assumption) (by assumption)) | ((with_reducible apply Rt.ckR); focus ((repeat (first | (with_reducible (first | refine Rt.fin ?_ | refine Rt.tL ?_ | refine Rt.tI ?_ | refine Rt.tB ?_ | refine Rt.tS ?_ | refine Rt.tP ?_ | refine Rt.tD ?_ | refine Rt.tM ?_ | refine Rt.tC ?_ | refine Rt.tN ?_ | refine Rt.tA ?_ | refine Rt.tG ?_ | refine Rt.tF ?_ | refine Rt.os ?_ | refine Rt.clS ?_ | refine Rt.jmN ?_ | refine Rt.jbN ?_ | refine Rt.jbE ?_)) | ((with_reducible (first | apply Rt.ld0 | apply Rt.ld1 | apply Rt.ld2 | apply Rt.ld3 | apply Rt.ld4 | apply Rt.ld5)); first | assumption | exact Lc.kp (by assumption) (by assumption)) | ((with_reducible apply Rt.ol); first | assumption | exact cell_kp (by assumption) (by assumption)))); exact Rt.some' rfl))))
    refine Rt.st3 lx5 fun w6 lx6 g6 => ?_
    have hR6 := Lc.gx hR5 g6 (by omega)
    have k06 : Kp w0 w6 := k05.tx g6 fun j hj => by have := hk.size; omega
    have z6 := g6.size
    refine Rt.call (Rbytes_spec (n := n) hR6 k06 hp hb hi4 hl hn) ?_
    rintro _ w7 ⟨C, d7, last, _, i5, e5, hr5, hR7, hi5, G7, ol7, bla, st5⟩
    cases hr5
    have k07 := tx k06 G7
    have z7 := G7.size
    have lx7 := lx6.gx G7 (by omega)
    (repeat (first | (with_reducible (first | refine Rt.fin ?_ | refine Rt.tL ?_ | refine Rt.tI ?_ | refine Rt.tB ?_ | refine Rt.tS ?_ | refine Rt.tP ?_ | refine Rt.tD ?_ | refine Rt.tM ?_ | refine Rt.tC ?_ | refine Rt.tN ?_ | refine Rt.tA ?_ | refine Rt.tG ?_ | refine Rt.tF ?_ | refine Rt.os ?_ | refine Rt.clS ?_ | refine Rt.jmN ?_ | refine Rt.jbN ?_ | refine Rt.jbE ?_)) | ((with_reducible (first | apply Rt.ld0 | apply Rt.ld1 | apply Rt.ld2 | apply Rt.ld3 | apply Rt.ld4 | apply Rt.ld5)); first | assumption | exact Lc.kp (by assumption) (by assumption)) | ((with_reducible apply Rt.ol); first | assumption | exact cell_kp (by assumption) (by assumption)) | ((with_reducible apply Rt.ckR); focus ((repeat (first | (with_reducible (first | refine Rt.fin ?_ | refine Rt.tL ?_ | refine Rt.tI ?_ | refine Rt.tB ?_ | refine Rt.tS ?_ | refine Rt.tP ?_ | refine Rt.tD ?_ | refine Rt.tM ?_ | refine Rt.tC ?_ | refine Rt.tN ?_ | refine Rt.tA ?_ | refine Rt.tG ?_ | refine Rt.tF ?_ | refine Rt.os ?_ | refine Rt.clS ?_ | refine Rt.jmN ?_ | refine Rt.jbN ?_ | refine Rt.jbE ?_)) | ((with_reducible (first | apply Rt.ld0 | apply Rt.ld1 | apply Rt.ld2 | apply Rt.ld3 | apply Rt.ld4 | apply Rt.ld5)); first | assumption | exact Lc.kp (by assumption) (by assumption)) | ((with_reducible apply Rt.ol); first | assumption | exact cell_kp (by assumption) (by assumption)))); exact Rt.some' rfl))))
    refine Rt.st4 lx7 fun w8 lx8 g8 => ?_
    have hR8 := Lc.gx hR7 g8 (by omega)
    have k08 : Kp w0 w8 := k07.tx g8 fun j hj => by have := hk.size; omega
    have z8 := g8.size
    refine Rt.call (Rnumber_spec (n := n) hR8 k08 hp hb hi5 hl hn) ?_
    rintro _ w9 ⟨vs, _, i6, e6, hr6, hR9, hi6, G9, bs9, st6⟩
    cases hr6
    have k09 := tx k08 G9
    have z9 := G9.size
    have lx9 := lx8.gx G9 (by omega)
    (repeat (first | (with_reducible (first | refine Rt.fin ?_ | refine Rt.tL ?_ | refine Rt.tI ?_ | refine Rt.tB ?_ | refine Rt.tS ?_ | refine Rt.tP ?_ | refine Rt.tD ?_ | refine Rt.tM ?_ | refine Rt.tC ?_ | refine Rt.tN ?_ | refine Rt.tA ?_ | refine Rt.tG ?_ | refine Rt.tF ?_ | refine Rt.os ?_ | refine Rt.clS ?_ | refine Rt.jmN ?_ | refine Rt.jbN ?_ | refine Rt.jbE ?_)) | ((with_reducible (first | apply Rt.ld0 | apply Rt.ld1 | apply Rt.ld2 | apply Rt.ld3 | apply Rt.ld4 | apply Rt.ld5)); first | assumption | exact Lc.kp (by assumption) (by assumption)) | ((with_reducible apply Rt.ol); first | assumption | exact cell_kp (by assumption) (by assumption)) | ((with_reducible apply Rt.ckR); focus ((repeat (first | (with_reducible (first | refine Rt.fin ?_ | refine Rt.tL ?_ | refine Rt.tI ?_ | refine Rt.tB ?_ | refine Rt.tS ?_ | refine Rt.tP ?_ | refine Rt.tD ?_ | refine Rt.tM ?_ | refine Rt.tC ?_ | refine Rt.tN ?_ | refine Rt.tA ?_ | refine Rt.tG ?_ | refine Rt.tF ?_ | refine Rt.os ?_ | refine Rt.clS ?_ | refine Rt.jmN ?_ | refine Rt.jbN ?_ | refine Rt.jbE ?_)) | ((with_reducible (first | apply Rt.ld0 | apply Rt.ld1 | apply Rt.ld2 | apply Rt.ld3 | apply Rt.ld4 | apply Rt.ld5)); first | assumption | exact Lc.kp (by assumption) (by assumption)) | ((with_reducible apply Rt.ol); first | assumption | exact cell_kp (by assumption) (by assumption)))); exact Rt.some' rfl))))
    refine Rt.st5 lx9 fun w10 lx10 g10 => ?_
    have hR10 := Lc.gx hR9 g10 (by omega)
    have k010 : Kp w0 w10 := k09.tx g10 fun j hj => by have := hk.size; omega
    have z10 := g10.size
    -- what was there ahead of the run
    have GB : Gx (fun k => k = p ∨ k = xr) w4 w10 := (((((G5.wide fun j _ h => .inl h).tr (g6.wide fun j _ h => .inr h)).tr (G7.wide fun j _ h => .inl h)).tr (g8.wide fun j _ h => .inr h)).tr (G9.wide fun j _ h => .inl h)).tr (g10.wide fun j _ h => .inr h)
    have hb0l := lb0.lt
    have G10 : Gx (fun k => k = p) w w10 := (GA.tr k4.gx).tr' GB fun k hk h => h.elim id fun h => by omega
    have lb10 := lb0.gx G10 (fun h => hne3 h.symm)
    have lxb10 := lxb.gx G10 (fun h => hne1 h.symm)
    have o10 := ho.gx G10 (fun k _ h => .inl h) fun k hk1 hv => by have := (hrowlt _ hv).1; omega
    have of10 := (((((of5.gx g6 fun j hj e => by have := (of5.lt j hj).1; omega).gx G7 fun j hj e => by have := (of5.lt j hj).1; omega).gx g8 fun j hj e => by have := (of5.lt j hj).1; omega).gx G9 fun j hj e => by have := (of5.lt j hj).1; omega).gx g10 fun j hj e => by have := (of5.lt j hj).1; omega).mono (base' := w.heap.size) (by omega)
    have ol10 := (((ol7.gx g8 fun j hj e => by have := (ol7.lt j hj).1; omega).gx G9 fun j hj e => by have := (ol7.lt j hj).1; omega).gx g10 fun j hj e => by have := (ol7.lt j hj).1; omega).mono (base' := w.heap.size) (by omega)
    (repeat (first | (with_reducible (first | refine Rt.fin ?_ | refine Rt.tL ?_ | refine Rt.tI ?_ | refine Rt.tB ?_ | refine Rt.tS ?_ | refine Rt.tP ?_ | refine Rt.tD ?_ | refine Rt.tM ?_ | refine Rt.tC ?_ | refine Rt.tN ?_ | refine Rt.tA ?_ | refine Rt.tG ?_ | refine Rt.tF ?_ | refine Rt.os ?_ | refine Rt.clS ?_ | refine Rt.jmN ?_ | refine Rt.jbN ?_ | refine Rt.jbE ?_)) | ((with_reducible (first | apply Rt.ld0 | apply Rt.ld1 | apply Rt.ld2 | apply Rt.ld3 | apply Rt.ld4 | apply Rt.ld5)); first | assumption | exact Lc.kp (by assumption) (by assumption)) | ((with_reducible apply Rt.ol); first | assumption | exact cell_kp (by assumption) (by assumption)) | ((with_reducible apply Rt.ckR); focus ((repeat (first | (with_reducible (first | refine Rt.fin ?_ | refine Rt.tL ?_ | refine Rt.tI ?_ | refine Rt.tB ?_ | refine Rt.tS ?_ | refine Rt.tP ?_ | refine Rt.tD ?_ | refine Rt.tM ?_ | refine Rt.tC ?_ | refine Rt.tN ?_ | refine Rt.tA ?_ | refine Rt.tG ?_ | refine Rt.tF ?_ | refine Rt.os ?_ | refine Rt.clS ?_ | refine Rt.jmN ?_ | refine Rt.jbN ?_ | refine Rt.jbE ?_)) | ((with_reducible (first | apply Rt.ld0 | apply Rt.ld1 | apply Rt.ld2 | apply Rt.ld3 | apply Rt.ld4 | apply Rt.ld5)); first | assumption | exact Lc.kp (by assumption) (by assumption)) | ((with_reducible apply Rt.ol); first | assumption | exact cell_kp (by assumption) (by assumption)))); exact Rt.some' rfl))))
    refine Rt.al fun w11 l11 k11 s11 => ?_
    have lxb11 := lxb10.kp k11
    have hstb := run_stb (w := w10) (S := fun k => SX p b0 xb k ∨ On (.slice R rs.length d) k) (x := ⟨xf, xy, xc, first, last, vs⟩) (by show -2 ^ 63 ≤ xf ∧ xf < 2 ^ 63; omega) (by show -2 ^ 63 ≤ xy ∧ xy < 2 ^ 63; omega) (by show -2 ^ 63 ≤ xc ∧ xc < 2 ^ 63; omega) bs9 of10 ol10 bfi bla (fun j hj => by
      rcases hj with (h | h | h) | h
      · omega
      · omega
      · omega
      · exact (hrowlt _ h).2)
    have z11 := k11.size
    refine Rt.app1L rfl hT (o10.kp k11) l11 rfl (hstb.kp k11) (by omega) (by omega) fun R' d' w12 o12 g12 s12 => ?_
    (repeat (first | (with_reducible (first | refine Rt.fin ?_ | refine Rt.tL ?_ | refine Rt.tI ?_ | refine Rt.tB ?_ | refine Rt.tS ?_ | refine Rt.tP ?_ | refine Rt.tD ?_ | refine Rt.tM ?_ | refine Rt.tC ?_ | refine Rt.tN ?_ | refine Rt.tA ?_ | refine Rt.tG ?_ | refine Rt.tF ?_ | refine Rt.os ?_ | refine Rt.clS ?_ | refine Rt.jmN ?_ | refine Rt.jbN ?_ | refine Rt.jbE ?_)) | ((with_reducible (first | apply Rt.ld0 | apply Rt.ld1 | apply Rt.ld2 | apply Rt.ld3 | apply Rt.ld4 | apply Rt.ld5)); first | assumption | exact Lc.kp (by assumption) (by assumption)) | ((with_reducible apply Rt.ol); first | assumption | exact cell_kp (by assumption) (by assumption)) | ((with_reducible apply Rt.ckR); focus ((repeat (first | (with_reducible (first | refine Rt.fin ?_ | refine Rt.tL ?_ | refine Rt.tI ?_ | refine Rt.tB ?_ | refine Rt.tS ?_ | refine Rt.tP ?_ | refine Rt.tD ?_ | refine Rt.tM ?_ | refine Rt.tC ?_ | refine Rt.tN ?_ | refine Rt.tA ?_ | refine Rt.tG ?_ | refine Rt.tF ?_ | refine Rt.os ?_ | refine Rt.clS ?_ | refine Rt.jmN ?_ | refine Rt.jbN ?_ | refine Rt.jbE ?_)) | ((with_reducible (first | apply Rt.ld0 | apply Rt.ld1 | apply Rt.ld2 | apply Rt.ld3 | apply Rt.ld4 | apply Rt.ld5)); first | assumption | exact Lc.kp (by assumption) (by assumption)) | ((with_reducible apply Rt.ol); first | assumption | exact cell_kp (by assumption) (by assumption)))); exact Rt.some' rfl))))
    have hne : ∀ b, (b = p ∨ b = b0 ∨ b = xb) → ¬ On (.slice R rs.length d) b := fun b hb' h => by have := (hrowlt _ h).1; omega
    have lxb12 := lxb11.gx g12 (hne xb (by omega))
    refine Rt.st0 lxb12 fun w13 lx13 g13 => ?_
    have hR13 := ((Lc.kp hR10 k11).gx g12 (hne p (by omega))).gx g13 (by omega)
    have lb13 := ((lb10.kp k11).gx g12 (hne b0 (by omega))).gx g13 hne2
    have k13 : Kp w0 w13 := ((k010.tr k11).tx g12 (fun j hj => by have := (hrowlt _ hj).1; have := hk.size; omega)).tx g13 fun j hj => by omega
    have o13 := o12.gx g13 (fun k _ h => .inr (.inr h)) fun k hk' hv => by have := (o12.lt _ hv).1; omega
    have z13 := g13.size
    have el : (rs ++ [(⟨xf, xy, xc, first, last, vs⟩ : RunD)]).length = rs.length + 1 := by simp
    rw [i64_in _ (by omega), show ((i : Int) + 1) = ((i + 1 : Nat) : Int) by omega]
    refine Rt.mono (ih (i + 1) j w13 i6 e6 R' d' (rs ++ [⟨xf, xy, xc, first, last, vs⟩]) (by omega) (by omega) k13 (by omega) hR13 hi6 lb13 (by rw [el]; exact lx13) (by rw [el]; omega) (by rw [el]; exact o13)) ?_
    rintro ⟨ex, vs', w14⟩ ⟨f1, f2, f3, f30, f4, a', e', R2, d2, ts, ts', f5, f6, f7, f8, f9, f10, f12⟩
    dsimp only at f1 f2 f3 f30 f4 f5 f7 f8
    have st : Stp runP zs at_ 0 i6 e6 ⟨vf, vy, vc, first, last, vs⟩ := st1.bind (st2.bind (st3.bind (st4.bind (st5.bind (st6.bind (Stp.ret _))))))
    refine ⟨f1, f2, f3, f30, f4, a', e', R2, d2, ⟨xf, xy, xc, first, last, vs⟩ :: ts, ⟨vf, vy, vc, first, last, vs⟩ :: ts', f5, f6, ?_, ?_, st.bind (f9.bind (Stp.ret _)), SimL.cons (sim_run t1 t2 t3) f10, by simp; omega⟩
    · rw [List.append_assoc] at f7; exact f7
    · rw [List.append_assoc] at f8; exact f8
theorem RRead_l1 {b0 xb base nn : Nat} {X : Value} {rest : List Value} {b0c : List Value} (hb : Bv .u8 w0 A l c zs) (hl : l ≤ 2 ^ 38) (hn : 2 ^ 59 < n) (hp : w0.heap.size ≤ p) (hb0 : w0.heap.size ≤ b0) (hxb : w0.heap.size ≤ xb) (hne1 : p ≠ xb) (hne2 : b0 ≠ xb) (hne3 : p ≠ b0) (h1 : p < base) (h2 : b0 < base) (h3 : xb < base) (hnn : nn ≤ 1000) :
    ∀ (q i j : Nat) (w : World) (at_ : Nat) (e : Int) (R : Option Addr) (d : Nat) (rs : List Int), i + q = nn → q < j → Kp w0 w → base ≤ w.heap.size → Rr w p A l c at_ e → at_ ≤ l → Lc w b0 b0c → Lc w xb (X :: .slice R rs.length d :: rest) → rs.length + q ≤ 1000 →
      Own .i64 3 w base (.slice R rs.length d) rs → (∀ z ∈ rs, 0 ≤ z ∧ z ≤ 2 ^ 62) →
    Rt (butteryref16_ReadEdit.l1 n j A l c ⟨b0, 0, none⟩ ⟨p, 0, none⟩ ⟨xb, 0, none⟩ (nn : Int) (i : Int) w) fun r => r.ex = .exit 2 ∧ r.vals = [.slice A l c, .pointer (some ⟨b0, 0, none⟩), .pointer (some ⟨p, 0, none⟩), .pointer (some ⟨xb, 0, none⟩)] ∧ Kp w0 r.w ∧ Gx (fun k => SX p b0 xb k ∨ On (.slice R rs.length d) k) w r.w ∧ Lc r.w b0 b0c ∧
      ∃ a' e' R' d' ts ts', Rr r.w p A l c a' e' ∧ a' ≤ l ∧ Lc r.w xb (X :: .slice R' (rs ++ ts).length d' :: rest) ∧ Own .i64 3 r.w base (.slice R' (rs ++ ts).length d') (rs ++ ts) ∧ (∀ z ∈ rs ++ ts, 0 ≤ z ∧ z ≤ 2 ^ 62) ∧ Stp (numsP q) zs at_ e a' e' ts' ∧ SimD ts ts' ∧ ts.length ≤ q := by
  obtain ⟨ti, hT⟩ := slI
  have hzl := hb.len
  intro q
  induction q with
  | zero =>
    intro i j w at_ e R d rs hi hj hk hbs hr ha lb0 lxb hrl ho hz
    obtain ⟨j, rfl⟩ : ∃ j', j = j' + 1 := ⟨j - 1, by omega⟩
    rw [butteryref16_ReadEdit.l1_succ]
    exact Rt.cDF (by omega) (Rt.some' ⟨rfl, rfl, hk, Gx.rfl' _ _, lb0, at_, e, R, d, [], [], hr, ha, by rw [List.append_nil]; exact lxb, by rw [List.append_nil]; exact ho, by rw [List.append_nil]; exact hz, Stp.ret _, .inl rfl, Nat.le_refl _⟩)
  | succ q ih =>
    intro i j w at_ e R d rs hi hj hk hbs hr ha lb0 lxb hrl ho hz
    obtain ⟨j, rfl⟩ : ∃ j', j = j' + 1 := ⟨j - 1, by omega⟩
    rw [butteryref16_ReadEdit.l1_succ]
    refine Rt.cDT (by omega) ?_
    (repeat (first | (with_reducible (first | refine Rt.fin ?_ | refine Rt.tL ?_ | refine Rt.tI ?_ | refine Rt.tB ?_ | refine Rt.tS ?_ | refine Rt.tP ?_ | refine Rt.tD ?_ | refine Rt.tM ?_ | refine Rt.tC ?_ | refine Rt.tN ?_ | refine Rt.tA ?_ | refine Rt.tG ?_ | refine Rt.tF ?_ | refine Rt.os ?_ | refine Rt.clS ?_ | refine Rt.jmN ?_ | refine Rt.jbN ?_ | refine Rt.jbE ?_)) | ((with_reducible (first | apply Rt.ld0 | apply Rt.ld1 | apply Rt.ld2 | apply Rt.ld3 | apply Rt.ld4 | apply Rt.ld5)); first | assumption | exact Lc.kp (by assumption) (by assumption)) | ((with_reducible apply Rt.ol); first | assumption | exact cell_kp (by assumption) (by assumption)) | ((with_reducible apply Rt.ckR); focus ((repeat (first | (with_reducible (first | refine Rt.fin ?_ | refine Rt.tL ?_ | refine Rt.tI ?_ | refine Rt.tB ?_ | refine Rt.tS ?_ | refine Rt.tP ?_ | refine Rt.tD ?_ | refine Rt.tM ?_ | refine Rt.tC ?_ | refine Rt.tN ?_ | refine Rt.tA ?_ | refine Rt.tG ?_ | refine Rt.tF ?_ | refine Rt.os ?_ | refine Rt.clS ?_ | refine Rt.jmN ?_ | refine Rt.jbN ?_ | refine Rt.jbE ?_)) | ((with_reducible (first | apply Rt.ld0 | apply Rt.ld1 | apply Rt.ld2 | apply Rt.ld3 | apply Rt.ld4 | apply Rt.ld5)); first | assumption | exact Lc.kp (by assumption) (by assumption)) | ((with_reducible apply Rt.ol); first | assumption | exact cell_kp (by assumption) (by assumption)))); exact Rt.some' rfl))))
    refine Rt.cQ (fun he => ?_) fun he => Rt.some' ⟨rfl, rfl, hk, Gx.rfl' _ _, lb0, at_, e, R, d, [], [], hr, ha, by rw [List.append_nil]; exact lxb, by rw [List.append_nil]; exact ho, by rw [List.append_nil]; exact hz, ⟨fun _ => rfl, fun h => absurd h he, fun h => absurd h he⟩, .inl rfl, Nat.zero_le _⟩
    subst he
    have d1 : Kp w w.drew := (Kp.rfl' w).dr
    have lxbd := lxb.kp d1
    (repeat (first | (with_reducible (first | refine Rt.fin ?_ | refine Rt.tL ?_ | refine Rt.tI ?_ | refine Rt.tB ?_ | refine Rt.tS ?_ | refine Rt.tP ?_ | refine Rt.tD ?_ | refine Rt.tM ?_ | refine Rt.tC ?_ | refine Rt.tN ?_ | refine Rt.tA ?_ | refine Rt.tG ?_ | refine Rt.tF ?_ | refine Rt.os ?_ | refine Rt.clS ?_ | refine Rt.jmN ?_ | refine Rt.jbN ?_ | refine Rt.jbE ?_)) | ((with_reducible (first | apply Rt.ld0 | apply Rt.ld1 | apply Rt.ld2 | apply Rt.ld3 | apply Rt.ld4 | apply Rt.ld5)); first | assumption | exact Lc.kp (by assumption) (by assumption)) | ((with_reducible apply Rt.ol); first | assumption | exact cell_kp (by assumption) (by assumption)) | ((with_reducible apply Rt.ckR); focus ((repeat (first | (with_reducible (first | refine Rt.fin ?_ | refine Rt.tL ?_ | refine Rt.tI ?_ | refine Rt.tB ?_ | refine Rt.tS ?_ | refine Rt.tP ?_ | refine Rt.tD ?_ | refine Rt.tM ?_ | refine Rt.tC ?_ | refine Rt.tN ?_ | refine Rt.tA ?_ | refine Rt.tG ?_ | refine Rt.tF ?_ | refine Rt.os ?_ | refine Rt.clS ?_ | refine Rt.jmN ?_ | refine Rt.jbN ?_ | refine Rt.jbE ?_)) | ((with_reducible (first | apply Rt.ld0 | apply Rt.ld1 | apply Rt.ld2 | apply Rt.ld3 | apply Rt.ld4 | apply Rt.ld5)); first | assumption | exact Lc.kp (by assumption) (by assumption)) | ((with_reducible apply Rt.ol); first | assumption | exact cell_kp (by assumption) (by assumption)))); exact Rt.some' rfl))))
    have hrd := Lc.kp hr d1
    have k0 := hk.tr d1
    have hxl := lxb.lt
    have hsd : w.drew.heap.size = w.heap.size := rfl
    have hrowlt := ho.lt
    refine Rt.call (Rint_spec (n := n) hrd k0 hp hb ha hl hn) ?_
    rintro _ w1 ⟨xf, vf, _, i1, e1, hr1, hR1, hi1, G1, bf, bvf, st1, t1⟩
    cases hr1
    have k1 := k0.tx G1 fun j hj => by omega
    have lx1 := lxbd.gx G1 (fun h => hne1 h.symm)
    have lb1 := (lb0.kp d1).gx G1 (fun h => hne3 h.symm)
    have o1 := ho.dr.gx G1 fun j hj e => by have := (hrowlt _ hj).1; omega
    have z1 := G1.size
    (repeat (first | (with_reducible (first | refine Rt.fin ?_ | refine Rt.tL ?_ | refine Rt.tI ?_ | refine Rt.tB ?_ | refine Rt.tS ?_ | refine Rt.tP ?_ | refine Rt.tD ?_ | refine Rt.tM ?_ | refine Rt.tC ?_ | refine Rt.tN ?_ | refine Rt.tA ?_ | refine Rt.tG ?_ | refine Rt.tF ?_ | refine Rt.os ?_ | refine Rt.clS ?_ | refine Rt.jmN ?_ | refine Rt.jbN ?_ | refine Rt.jbE ?_)) | ((with_reducible (first | apply Rt.ld0 | apply Rt.ld1 | apply Rt.ld2 | apply Rt.ld3 | apply Rt.ld4 | apply Rt.ld5)); first | assumption | exact Lc.kp (by assumption) (by assumption)) | ((with_reducible apply Rt.ol); first | assumption | exact cell_kp (by assumption) (by assumption)) | ((with_reducible apply Rt.ckR); focus ((repeat (first | (with_reducible (first | refine Rt.fin ?_ | refine Rt.tL ?_ | refine Rt.tI ?_ | refine Rt.tB ?_ | refine Rt.tS ?_ | refine Rt.tP ?_ | refine Rt.tD ?_ | refine Rt.tM ?_ | refine Rt.tC ?_ | refine Rt.tN ?_ | refine Rt.tA ?_ | refine Rt.tG ?_ | refine Rt.tF ?_ | refine Rt.os ?_ | refine Rt.clS ?_ | refine Rt.jmN ?_ | refine Rt.jbN ?_ | refine Rt.jbE ?_)) | ((with_reducible (first | apply Rt.ld0 | apply Rt.ld1 | apply Rt.ld2 | apply Rt.ld3 | apply Rt.ld4 | apply Rt.ld5)); first | assumption | exact Lc.kp (by assumption) (by assumption)) | ((with_reducible apply Rt.ol); first | assumption | exact cell_kp (by assumption) (by assumption)))); exact Rt.some' rfl))))
    refine Rt.al fun w7 l7 k7 s7 => ?_
    have lx7 := lx1.kp k7
    have z7 := k7.size
    (repeat (first | (with_reducible (first | refine Rt.fin ?_ | refine Rt.tL ?_ | refine Rt.tI ?_ | refine Rt.tB ?_ | refine Rt.tS ?_ | refine Rt.tP ?_ | refine Rt.tD ?_ | refine Rt.tM ?_ | refine Rt.tC ?_ | refine Rt.tN ?_ | refine Rt.tA ?_ | refine Rt.tG ?_ | refine Rt.tF ?_ | refine Rt.os ?_ | refine Rt.clS ?_ | refine Rt.jmN ?_ | refine Rt.jbN ?_ | refine Rt.jbE ?_)) | ((with_reducible (first | apply Rt.ld0 | apply Rt.ld1 | apply Rt.ld2 | apply Rt.ld3 | apply Rt.ld4 | apply Rt.ld5)); first | assumption | exact Lc.kp (by assumption) (by assumption)) | ((with_reducible apply Rt.ol); first | assumption | exact cell_kp (by assumption) (by assumption)) | ((with_reducible apply Rt.ckR); focus ((repeat (first | (with_reducible (first | refine Rt.fin ?_ | refine Rt.tL ?_ | refine Rt.tI ?_ | refine Rt.tB ?_ | refine Rt.tS ?_ | refine Rt.tP ?_ | refine Rt.tD ?_ | refine Rt.tM ?_ | refine Rt.tC ?_ | refine Rt.tN ?_ | refine Rt.tA ?_ | refine Rt.tG ?_ | refine Rt.tF ?_ | refine Rt.os ?_ | refine Rt.clS ?_ | refine Rt.jmN ?_ | refine Rt.jbN ?_ | refine Rt.jbE ?_)) | ((with_reducible (first | apply Rt.ld0 | apply Rt.ld1 | apply Rt.ld2 | apply Rt.ld3 | apply Rt.ld4 | apply Rt.ld5)); first | assumption | exact Lc.kp (by assumption) (by assumption)) | ((with_reducible apply Rt.ol); first | assumption | exact cell_kp (by assumption) (by assumption)))); exact Rt.some' rfl))))
    refine Rt.push hT (o1.kp k7) l7 (by omega) (by omega) fun R' d' w8 o8 fo8 g8 => ?_
    (repeat (first | (with_reducible (first | refine Rt.fin ?_ | refine Rt.tL ?_ | refine Rt.tI ?_ | refine Rt.tB ?_ | refine Rt.tS ?_ | refine Rt.tP ?_ | refine Rt.tD ?_ | refine Rt.tM ?_ | refine Rt.tC ?_ | refine Rt.tN ?_ | refine Rt.tA ?_ | refine Rt.tG ?_ | refine Rt.tF ?_ | refine Rt.os ?_ | refine Rt.clS ?_ | refine Rt.jmN ?_ | refine Rt.jbN ?_ | refine Rt.jbE ?_)) | ((with_reducible (first | apply Rt.ld0 | apply Rt.ld1 | apply Rt.ld2 | apply Rt.ld3 | apply Rt.ld4 | apply Rt.ld5)); first | assumption | exact Lc.kp (by assumption) (by assumption)) | ((with_reducible apply Rt.ol); first | assumption | exact cell_kp (by assumption) (by assumption)) | ((with_reducible apply Rt.ckR); focus ((repeat (first | (with_reducible (first | refine Rt.fin ?_ | refine Rt.tL ?_ | refine Rt.tI ?_ | refine Rt.tB ?_ | refine Rt.tS ?_ | refine Rt.tP ?_ | refine Rt.tD ?_ | refine Rt.tM ?_ | refine Rt.tC ?_ | refine Rt.tN ?_ | refine Rt.tA ?_ | refine Rt.tG ?_ | refine Rt.tF ?_ | refine Rt.os ?_ | refine Rt.clS ?_ | refine Rt.jmN ?_ | refine Rt.jbN ?_ | refine Rt.jbE ?_)) | ((with_reducible (first | apply Rt.ld0 | apply Rt.ld1 | apply Rt.ld2 | apply Rt.ld3 | apply Rt.ld4 | apply Rt.ld5)); first | assumption | exact Lc.kp (by assumption) (by assumption)) | ((with_reducible apply Rt.ol); first | assumption | exact cell_kp (by assumption) (by assumption)))); exact Rt.some' rfl))))
    have hne : ∀ b, (b = p ∨ b = b0 ∨ b = xb) → ¬ On (.slice R rs.length d) b := fun b hb' h => by have := (hrowlt _ h).1; omega
    have lx8 := lx7.gx g8 (hne xb (by omega))
    have z8 := g8.size
    refine Rt.st1 lx8 fun w9 lx9 g9 => ?_
    have hR9 := ((Lc.kp hR1 k7).gx g8 (hne p (by omega))).gx g9 (by omega)
    have lb9 := ((lb1.kp k7).gx g8 (hne b0 (by omega))).gx g9 hne2
    have k9 : Kp w0 w9 := ((k1.tr k7).tx g8 (fun j hj => by have := (hrowlt _ hj).1; have := hk.size; omega)).tx g9 fun j hj => by omega
    have o9 := o8.gx g9 fun j hj e => by have := (o8.lt _ hj).1; omega
    have z9 := g9.size
    have el : (rs ++ [xf]).length = rs.length + 1 := by simp
    have G9 : Gx (fun k => SX p b0 xb k ∨ On (.slice R rs.length d) k) w w9 := (((d1.gx.tr (G1.wide fun j _ h => .inl (.inl h))).tr k7.gx).tr (g8.wide fun j _ h => .inr h)).tr (g9.wide fun j _ h => .inl (.inr (.inr h)))
    rw [i64_in _ (by omega), show ((i : Int) + 1) = ((i + 1 : Nat) : Int) by omega]
    refine Rt.mono (ih (i + 1) j w9 i1 e1 R' d' (rs ++ [xf]) (by omega) (by omega) k9 (by omega) hR9 hi1 lb9 (by rw [el]; exact lx9) (by rw [el]; omega) (by rw [el]; exact o9) (fun z hz' => by
      rcases List.mem_append.1 hz' with h | h
      · exact hz z h
      · rw [List.mem_singleton] at h; subst h; omega)) ?_
    rintro ⟨ex, vs', w10⟩ ⟨f1, f2, f3, f30, f4, a', e', R2, d2, ts, ts', f5, f6, f7, f8, f80, f9, f10, f12⟩
    dsimp only at f1 f2 f3 f30 f4 f5 f7 f8
    refine ⟨f1, f2, f3, ?_, f4, a', e', R2, d2, xf :: ts, vf :: ts', f5, f6, ?_, ?_, ?_, st1.bind (f9.bind (Stp.ret _)), SimD.cons t1 f10, by simp; omega⟩
    · refine G9.tr' f30 fun j hj h => ?_
      rcases h with h | h
      · exact .inl h
      · rw [el] at h
        exact (fo8 j h).elim .inr fun h' => by omega
    · rw [List.append_assoc] at f7; exact f7
    · rw [List.append_assoc] at f8; exact f8
    · rw [List.append_assoc] at f80; exact f80
end
end Go.Proofs.Ytdnbpgakmbamoaa.Ed
