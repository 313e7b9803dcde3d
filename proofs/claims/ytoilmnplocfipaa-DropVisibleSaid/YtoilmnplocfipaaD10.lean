/- Drop: at each snapshot, and at the end, what is visible is what it was. -/
import Derived.Test.YtoilmnplocfipaaD9
namespace Go.Proofs.Ytoilmnplocfipaa.Dr
open Go Big Go.RowKit Go.IntWalk Ik
set_option linter.unusedVariables false
set_option linter.unusedSimpArgs false
section
variable {α : Type} {Q : α → Prop} {n base : Nat} {w w0 w' : World} {A B C D E : Option Addr} {l c m d a1 a2 b1 b2 e c5 : Nat} {s k s' k' : Int} {x y : En} {xs ys zs : List En} {ss : List Int} {v : Value}
theorem visP_len (q : Int) : ∀ (l : List En), (visP q l).length ≤ l.length := grp_rec (by simp [visP_nil]) fun x l ih => by
  rw [visP_cons', List.length_append, List.length_cons]
  have h1 := seenAt_len (q := q) (g := x :: same x l)
  have h2 := rest_len x l
  omega
theorem twins_l0 (hx : Ev enEl w A l c xs) (hl : l ≤ 2 ^ 40) : ∀ (q i j : Nat) (w' : World), i + q = l ∨ (l = 0 ∧ q = 0) → q < j → 1 ≤ i → Kp w w' →
    Rt (butterylaw21_twins.l0 n j A l c (i : Int) w') fun r => Kp w r.w ∧ (r.ex = .exit 0 ∧ r.vals = [] ∨ r.ex = .ret ∧ r.vals = [.bool true]) := by
  have hxl := hx.len
  intro q
  induction q with
  | zero =>
    intro i j w' hi hj hi1 hk
    obtain ⟨j, rfl⟩ : ∃ j', j = j' + 1 := ⟨j - 1, by omega⟩
    rw [butterylaw21_twins.l0_succ]
    exact Rt.cDF (by omega) (Rt.some' ⟨hk, .inl ⟨rfl, rfl⟩⟩)
  | succ q ih =>
    intro i j w' hi hj hi1 hk
    obtain ⟨j, rfl⟩ : ∃ j', j = j' + 1 := ⟨j - 1, by omega⟩
    rw [butterylaw21_twins.l0_succ]
    have hk := hk.dr
    rw [i64_in ((i : Int) - 1) (by omega)]
    have cont : Rt (some (⟨.norm, [.slice A l c, .int .i64 (i : Int)], w'.drew⟩ : Res)) fun r => (r.ex = .norm ∨ r.ex = .exit 1) ∧ Rt (Big.tC r.vals fun v21 cs22 => Big.tL v21 fun A23 l24 c25 => Big.tC cs22 fun v26 cs27 => Big.tI .i64 v26 fun n28 => Big.tN cs27 (butterylaw21_twins.l0 n j A23 l24 c25 (IntKind.i64.wrap (n28 + 1)) r.w)) (fun r => Kp w r.w ∧ (r.ex = .exit 0 ∧ r.vals = [] ∨ r.ex = .ret ∧ r.vals = [.bool true])) ∨ r.ex = .ret ∧ (Kp w r.w ∧ (r.ex = .exit 0 ∧ r.vals = [] ∨ r.ex = .ret ∧ r.vals = [.bool true])) := by
      refine Rt.some' (.inl ⟨.inl rfl, ?_⟩)
      (repeat (first | (with_reducible (first | refine Rt.fin ?_ | refine Rt.tL ?_ | refine Rt.tI ?_ | refine Rt.tB ?_ | refine Rt.tS ?_ | refine Rt.tP ?_ | refine Rt.tD ?_ | refine Rt.tM ?_ | refine Rt.tC ?_ | refine Rt.tN ?_ | refine Rt.tA ?_ | refine Rt.tG ?_ | refine Rt.tF ?_ | refine Rt.os ?_ | refine Rt.clS ?_ | refine Rt.jmN ?_ | refine Rt.jbN ?_ | refine Rt.jbE ?_)) | ((with_reducible (first | apply Rt.ld0 | apply Rt.ld1 | apply Rt.ld2 | apply Rt.ld3 | apply Rt.ld4 | apply Rt.ld5)); first | assumption | exact Lc.kp (by assumption) (by assumption)) | ((with_reducible apply Rt.ol); first | assumption | exact cell_kp (by assumption) (by assumption)) | ((with_reducible apply Rt.ckR); focus ((repeat (first | (with_reducible (first | refine Rt.fin ?_ | refine Rt.tL ?_ | refine Rt.tI ?_ | refine Rt.tB ?_ | refine Rt.tS ?_ | refine Rt.tP ?_ | refine Rt.tD ?_ | refine Rt.tM ?_ | refine Rt.tC ?_ | refine Rt.tN ?_ | refine Rt.tA ?_ | refine Rt.tG ?_ | refine Rt.tF ?_ | refine Rt.os ?_ | refine Rt.clS ?_ | refine Rt.jmN ?_ | refine Rt.jbN ?_ | refine Rt.jbE ?_)) | ((with_reducible (first | apply Rt.ld0 | apply Rt.ld1 | apply Rt.ld2 | apply Rt.ld3 | apply Rt.ld4 | apply Rt.ld5)); first | assumption | exact Lc.kp (by assumption) (by assumption)) | ((with_reducible apply Rt.ol); first | assumption | exact cell_kp (by assumption) (by assumption)))); exact Rt.some' rfl))))
      rw [i64_in _ (by omega), show ((i : Int) + 1) = ((i + 1 : Nat) : Int) by omega]
      exact ih (i + 1) j _ (by omega) (by omega) (by omega) hk
    refine Rt.cDT (by omega) (Rt.jb (Rt.ixN (hx.kp hk).sl (by omega) (by omega) fun x a B1 b1 b2 s k C1 c1 c2 ex hv g0 g1 g2 g3 => ?_))
    (repeat (first | (with_reducible (first | refine Rt.fin ?_ | refine Rt.tL ?_ | refine Rt.tI ?_ | refine Rt.tB ?_ | refine Rt.tS ?_ | refine Rt.tP ?_ | refine Rt.tD ?_ | refine Rt.tM ?_ | refine Rt.tC ?_ | refine Rt.tN ?_ | refine Rt.tA ?_ | refine Rt.tG ?_ | refine Rt.tF ?_ | refine Rt.os ?_ | refine Rt.clS ?_ | refine Rt.jmN ?_ | refine Rt.jbN ?_ | refine Rt.jbE ?_)) | ((with_reducible (first | apply Rt.ld0 | apply Rt.ld1 | apply Rt.ld2 | apply Rt.ld3 | apply Rt.ld4 | apply Rt.ld5)); first | assumption | exact Lc.kp (by assumption) (by assumption)) | ((with_reducible apply Rt.ol); first | assumption | exact cell_kp (by assumption) (by assumption)) | ((with_reducible apply Rt.ckR); focus ((repeat (first | (with_reducible (first | refine Rt.fin ?_ | refine Rt.tL ?_ | refine Rt.tI ?_ | refine Rt.tB ?_ | refine Rt.tS ?_ | refine Rt.tP ?_ | refine Rt.tD ?_ | refine Rt.tM ?_ | refine Rt.tC ?_ | refine Rt.tN ?_ | refine Rt.tA ?_ | refine Rt.tG ?_ | refine Rt.tF ?_ | refine Rt.os ?_ | refine Rt.clS ?_ | refine Rt.jmN ?_ | refine Rt.jbN ?_ | refine Rt.jbE ?_)) | ((with_reducible (first | apply Rt.ld0 | apply Rt.ld1 | apply Rt.ld2 | apply Rt.ld3 | apply Rt.ld4 | apply Rt.ld5)); first | assumption | exact Lc.kp (by assumption) (by assumption)) | ((with_reducible apply Rt.ol); first | assumption | exact cell_kp (by assumption) (by assumption)))); exact Rt.some' rfl))))
    refine Rt.str hv.key (Rt.ixN (hx.kp hk).sl (by omega) (by omega) fun y a' B1' b1' b2' s' k' C1' c1' c2' ey hv' g0' g1' g2' g3' => ?_)
    (repeat (first | (with_reducible (first | refine Rt.fin ?_ | refine Rt.tL ?_ | refine Rt.tI ?_ | refine Rt.tB ?_ | refine Rt.tS ?_ | refine Rt.tP ?_ | refine Rt.tD ?_ | refine Rt.tM ?_ | refine Rt.tC ?_ | refine Rt.tN ?_ | refine Rt.tA ?_ | refine Rt.tG ?_ | refine Rt.tF ?_ | refine Rt.os ?_ | refine Rt.clS ?_ | refine Rt.jmN ?_ | refine Rt.jbN ?_ | refine Rt.jbE ?_)) | ((with_reducible (first | apply Rt.ld0 | apply Rt.ld1 | apply Rt.ld2 | apply Rt.ld3 | apply Rt.ld4 | apply Rt.ld5)); first | assumption | exact Lc.kp (by assumption) (by assumption)) | ((with_reducible apply Rt.ol); first | assumption | exact cell_kp (by assumption) (by assumption)) | ((with_reducible apply Rt.ckR); focus ((repeat (first | (with_reducible (first | refine Rt.fin ?_ | refine Rt.tL ?_ | refine Rt.tI ?_ | refine Rt.tB ?_ | refine Rt.tS ?_ | refine Rt.tP ?_ | refine Rt.tD ?_ | refine Rt.tM ?_ | refine Rt.tC ?_ | refine Rt.tN ?_ | refine Rt.tA ?_ | refine Rt.tG ?_ | refine Rt.tF ?_ | refine Rt.os ?_ | refine Rt.clS ?_ | refine Rt.jmN ?_ | refine Rt.jbN ?_ | refine Rt.jbE ?_)) | ((with_reducible (first | apply Rt.ld0 | apply Rt.ld1 | apply Rt.ld2 | apply Rt.ld3 | apply Rt.ld4 | apply Rt.ld5)); first | assumption | exact Lc.kp (by assumption) (by assumption)) | ((with_reducible apply Rt.ol); first | assumption | exact cell_kp (by assumption) (by assumption)))); exact Rt.some' rfl))))
    refine Rt.str hv'.key (Rt.cS hv.key.rng hv'.key.rng (fun h => ?_) fun h => cont)
    refine Rt.ixN (hx.kp hk).sl (by omega) (by omega) fun x a B1 b1 b2 s k C1 c1 c2 ex hv g0 g1 g2 g3 => ?_
    (repeat (first | (with_reducible (first | refine Rt.fin ?_ | refine Rt.tL ?_ | refine Rt.tI ?_ | refine Rt.tB ?_ | refine Rt.tS ?_ | refine Rt.tP ?_ | refine Rt.tD ?_ | refine Rt.tM ?_ | refine Rt.tC ?_ | refine Rt.tN ?_ | refine Rt.tA ?_ | refine Rt.tG ?_ | refine Rt.tF ?_ | refine Rt.os ?_ | refine Rt.clS ?_ | refine Rt.jmN ?_ | refine Rt.jbN ?_ | refine Rt.jbE ?_)) | ((with_reducible (first | apply Rt.ld0 | apply Rt.ld1 | apply Rt.ld2 | apply Rt.ld3 | apply Rt.ld4 | apply Rt.ld5)); first | assumption | exact Lc.kp (by assumption) (by assumption)) | ((with_reducible apply Rt.ol); first | assumption | exact cell_kp (by assumption) (by assumption)) | ((with_reducible apply Rt.ckR); focus ((repeat (first | (with_reducible (first | refine Rt.fin ?_ | refine Rt.tL ?_ | refine Rt.tI ?_ | refine Rt.tB ?_ | refine Rt.tS ?_ | refine Rt.tP ?_ | refine Rt.tD ?_ | refine Rt.tM ?_ | refine Rt.tC ?_ | refine Rt.tN ?_ | refine Rt.tA ?_ | refine Rt.tG ?_ | refine Rt.tF ?_ | refine Rt.os ?_ | refine Rt.clS ?_ | refine Rt.jmN ?_ | refine Rt.jbN ?_ | refine Rt.jbE ?_)) | ((with_reducible (first | apply Rt.ld0 | apply Rt.ld1 | apply Rt.ld2 | apply Rt.ld3 | apply Rt.ld4 | apply Rt.ld5)); first | assumption | exact Lc.kp (by assumption) (by assumption)) | ((with_reducible apply Rt.ol); first | assumption | exact cell_kp (by assumption) (by assumption)))); exact Rt.some' rfl))))
    refine Rt.ixN (hx.kp hk).sl (by omega) (by omega) fun y a' B1' b1' b2' s' k' C1' c1' c2' ey hv' g0' g1' g2' g3' => ?_
    (repeat (first | (with_reducible (first | refine Rt.fin ?_ | refine Rt.tL ?_ | refine Rt.tI ?_ | refine Rt.tB ?_ | refine Rt.tS ?_ | refine Rt.tP ?_ | refine Rt.tD ?_ | refine Rt.tM ?_ | refine Rt.tC ?_ | refine Rt.tN ?_ | refine Rt.tA ?_ | refine Rt.tG ?_ | refine Rt.tF ?_ | refine Rt.os ?_ | refine Rt.clS ?_ | refine Rt.jmN ?_ | refine Rt.jbN ?_ | refine Rt.jbE ?_)) | ((with_reducible (first | apply Rt.ld0 | apply Rt.ld1 | apply Rt.ld2 | apply Rt.ld3 | apply Rt.ld4 | apply Rt.ld5)); first | assumption | exact Lc.kp (by assumption) (by assumption)) | ((with_reducible apply Rt.ol); first | assumption | exact cell_kp (by assumption) (by assumption)) | ((with_reducible apply Rt.ckR); focus ((repeat (first | (with_reducible (first | refine Rt.fin ?_ | refine Rt.tL ?_ | refine Rt.tI ?_ | refine Rt.tB ?_ | refine Rt.tS ?_ | refine Rt.tP ?_ | refine Rt.tD ?_ | refine Rt.tM ?_ | refine Rt.tC ?_ | refine Rt.tN ?_ | refine Rt.tA ?_ | refine Rt.tG ?_ | refine Rt.tF ?_ | refine Rt.os ?_ | refine Rt.clS ?_ | refine Rt.jmN ?_ | refine Rt.jbN ?_ | refine Rt.jbE ?_)) | ((with_reducible (first | apply Rt.ld0 | apply Rt.ld1 | apply Rt.ld2 | apply Rt.ld3 | apply Rt.ld4 | apply Rt.ld5)); first | assumption | exact Lc.kp (by assumption) (by assumption)) | ((with_reducible apply Rt.ol); first | assumption | exact cell_kp (by assumption) (by assumption)))); exact Rt.some' rfl))))
    exact Rt.cQ (fun h => Rt.some' (.inr ⟨rfl, hk, .inr ⟨rfl, rfl⟩⟩)) fun h => cont
theorem twins_spec (hx : Ev enEl w A l c xs) (hl : l ≤ 2 ^ 40) (hn : l < n) : Rt (butterylaw21_twins n [.slice A l c] w) fun r => ∃ b w', r = ([.bool b], w') ∧ Kp w w' := by
  rw [butterylaw21_twins_eq]
  refine Rt.fin (Rt.jb (Rt.mono (twins_l0 (n := n) hx hl (l - 1) 1 n w (by omega) (by omega) (by omega) (Kp.rfl' w)) ?_))
  rintro ⟨ex, vs, w1⟩ ⟨k1, ⟨h3, h4⟩ | ⟨h3, h4⟩⟩
  · dsimp only at h3 h4 k1
    subst h3 h4
    refine .inl ⟨.inr rfl, ?_⟩
    (repeat (first | (with_reducible (first | refine Rt.fin ?_ | refine Rt.tL ?_ | refine Rt.tI ?_ | refine Rt.tB ?_ | refine Rt.tS ?_ | refine Rt.tP ?_ | refine Rt.tD ?_ | refine Rt.tM ?_ | refine Rt.tC ?_ | refine Rt.tN ?_ | refine Rt.tA ?_ | refine Rt.tG ?_ | refine Rt.tF ?_ | refine Rt.os ?_ | refine Rt.clS ?_ | refine Rt.jmN ?_ | refine Rt.jbN ?_ | refine Rt.jbE ?_)) | ((with_reducible (first | apply Rt.ld0 | apply Rt.ld1 | apply Rt.ld2 | apply Rt.ld3 | apply Rt.ld4 | apply Rt.ld5)); first | assumption | exact Lc.kp (by assumption) (by assumption)) | ((with_reducible apply Rt.ol); first | assumption | exact cell_kp (by assumption) (by assumption)) | ((with_reducible apply Rt.ckR); focus ((repeat (first | (with_reducible (first | refine Rt.fin ?_ | refine Rt.tL ?_ | refine Rt.tI ?_ | refine Rt.tB ?_ | refine Rt.tS ?_ | refine Rt.tP ?_ | refine Rt.tD ?_ | refine Rt.tM ?_ | refine Rt.tC ?_ | refine Rt.tN ?_ | refine Rt.tA ?_ | refine Rt.tG ?_ | refine Rt.tF ?_ | refine Rt.os ?_ | refine Rt.clS ?_ | refine Rt.jmN ?_ | refine Rt.jbN ?_ | refine Rt.jbE ?_)) | ((with_reducible (first | apply Rt.ld0 | apply Rt.ld1 | apply Rt.ld2 | apply Rt.ld3 | apply Rt.ld4 | apply Rt.ld5)); first | assumption | exact Lc.kp (by assumption) (by assumption)) | ((with_reducible apply Rt.ol); first | assumption | exact cell_kp (by assumption) (by assumption)))); exact Rt.some' rfl))))
    exact Rt.some' ⟨rfl, false, w1, rfl, k1⟩
  · dsimp only at h3 h4 k1
    subst h3 h4
    exact .inr ⟨rfl, rfl, true, w1, rfl, k1⟩
theorem DropVisible_l0 {at_ : List Int} (hx : Ev enEl w A l c xs) (hy : Ev enEl w B m d ys) (ha : Bv .u64 w C e c5 at_) (hL : ∀ z ∈ xs, z.key.length ≤ 2 ^ 38 ∧ z.val.length ≤ 2 ^ 38) (hM : ∀ z ∈ ys, z.key.length ≤ 2 ^ 38 ∧ z.val.length ≤ 2 ^ 38) (hl : l ≤ 2 ^ 20) (hm : m ≤ 2 ^ 20) (he : e ≤ 2 ^ 20) (hn : 2 ^ 63 < n)
    (heq : ∀ q ∈ at_, visR q ys = visR q xs) : ∀ (f i j : Nat) (w' : World), i + f = e → f < j → Kp w w' →
    Rt (butterylaw21_DropVisible.l0 n j A l c B m d C e c5 (i : Int) w') fun r => Kp w r.w ∧ r.ex = .exit 0 ∧ r.vals = [] := by
  have hxl := hx.len
  have hyl := hy.len
  have hal := ha.len
  intro f
  induction f with
  | zero =>
    intro i j w' hi hj hk
    obtain ⟨j, rfl⟩ : ∃ j', j = j' + 1 := ⟨j - 1, by omega⟩
    rw [butterylaw21_DropVisible.l0_succ]
    exact Rt.cDF (by omega) (Rt.some' ⟨hk, rfl, rfl⟩)
  | succ f ih =>
    intro i j w' hi hj hk
    obtain ⟨j, rfl⟩ : ∃ j', j = j' + 1 := ⟨j - 1, by omega⟩
    rw [butterylaw21_DropVisible.l0_succ]
    have hk := hk.dr
    have ex : at_[i]? = some (at_.getD i 0) := by rw [List.getD_eq_getElem?_getD, List.getElem?_eq_getElem (by omega)]; rfl
    have hq := heq _ (List.mem_of_getElem? ex)
    generalize hz : at_.getD i 0 = q at ex hq
    obtain ⟨a, hA, hc⟩ := (ha.kp hk).sl.at_ (i := (i : Int)) (by omega) (by omega)
    subst hA
    rw [Int.toNat_natCast, hz] at hc
    have hix : ∀ (f : Addr → Option Res), ixA (some a) e (i : Int) 1 f = f (a.add i) := fun f => by
      unfold ixA
      simp only
      rw [if_pos ⟨by omega, by omega⟩, Int.toNat_natCast, Nat.mul_one]
    refine Rt.cDT (by omega) ?_
    rw [hix]
    refine Rt.ol hc (Rt.tI ?_)
    refine Rt.cPv (Visible_spec (q := q) (hy.kp hk) hM (by omega) (by omega)) fun F f1 w1 h1 k1 => ?_
    rw [hix]
    have k01 := hk.tr k1
    refine Rt.ol (cell_kp hc k1) (Rt.tI (Rt.ck (by rw [hc, opt_some, tI_mk]) ?_))
    refine Rt.cPv (RVisible_spec (q := q) (hx.kp k01) hL (by omega) (by omega)) fun F' f2 w2 h2 k2 => ?_
    have hvr : (visR q ys).length ≤ 2 ^ 20 := by
      unfold visR
      split
      · have := visP_len q ys; omega
      · exact Nat.zero_le _
    refine Rt.cBt (SamePairs_spec (h1.kp k2) h2 (by omega) (by omega)) hq fun w3 k3 => Rt.cF rfl ?_
    rw [i64_in _ (by omega), show ((i : Int) + 1) = ((i + 1 : Nat) : Int) by omega]
    exact ih (i + 1) j w3 (by omega) (by omega) ((k01.tr k2).tr k3)
theorem en_rs (hx : Ev enEl w A l c xs) : ∀ z ∈ xs, z.seq < 2 ^ 64 := by
  intro z hz
  obtain ⟨i, hi⟩ := List.mem_iff_getElem?.1 hz
  have hlt := (List.getElem?_eq_some_iff.1 hi).1
  have hxl := hx.len
  obtain ⟨x, a, us, h1, _, _, h4, _⟩ := hx.sl.at_ (i := (i : Int)) (by omega) (by omega)
  rw [Int.toNat_natCast, hi] at h1
  injection h1 with h1
  subst h1
  obtain ⟨_, _, _, _, _, _, _, _, _, hv⟩ := h4
  exact (u64b hv.rs).2
theorem DropVisible_spec (hx : Ev enEl w A l c xs) (hs : Bv .u64 w B m d ss) (hl : l < 2 ^ 63) (hn : 2 ^ 63 < n)  {last : Bool} : Rt (butterylaw21_DropVisible n [.slice A l c, .slice B m d, .bool last] w) (RB True w) := by
  obtain ⟨t, hT⟩ := slU
  have hsq := en_rs hx
  have hxl := hx.len
  rw [butterylaw21_DropVisible_eq]
  refine Rt.fin (Rt.cBt (alive_spec (by omega)) trivial fun w1 k1 => Rt.cBo (Big_spec (hx.kp k1) hl (by omega)) fun b w2 hb k2 => Rt.cF rfl ?_)
  have k2 := k1.tr k2
  cases b with
  | true => exact Rt.cT rfl (Rt.endB (by simp) k2)
  | false =>
    have hnb : ¬ bigE xs := fun h => by simpa using hb.2 h
    have hL : ∀ z ∈ xs, z.key.length ≤ 2 ^ 38 ∧ z.val.length ≤ 2 ^ 38 := fun z hz => by
      have : ¬ (z.key.length > 300 ∨ z.val.length > 300) := fun h => hnb (.inl ⟨z, hz, h⟩)
      omega
    have hln : xs.length ≤ 60 := by
      have : ¬ (xs.length > 60) := fun h => hnb (.inr h)
      omega
    refine Rt.cF rfl (Rt.cD (fun h => Rt.endB (by simp) k2) fun hm => ?_)
    refine Rt.cBo (RRising_spec (hx.kp k2) (by omega) (by omega) (fun z hz => by have := hL z hz; omega) fun z hz => by have := hL z hz; omega) fun b w3 hb3 k3 => ?_
    have k3 := k2.tr k3
    cases b with
    | false => exact Rt.cT rfl (Rt.endB (by simp) k3)
    | true =>
      have hr := hb3.1 rfl
      refine Rt.cF rfl (Rt.call (twins_spec (n := n) (hx.kp k3) (by omega) (by omega)) fun vs w4 h4 => ?_)
      obtain ⟨b, w4', e4, k4⟩ := h4
      injection e4 with e4 e5
      subst e4 e5
      have k4 := k3.tr k4
      (repeat (first | (with_reducible (first | refine Rt.fin ?_ | refine Rt.tL ?_ | refine Rt.tI ?_ | refine Rt.tB ?_ | refine Rt.tS ?_ | refine Rt.tP ?_ | refine Rt.tD ?_ | refine Rt.tM ?_ | refine Rt.tC ?_ | refine Rt.tN ?_ | refine Rt.tA ?_ | refine Rt.tG ?_ | refine Rt.tF ?_ | refine Rt.os ?_ | refine Rt.clS ?_ | refine Rt.jmN ?_ | refine Rt.jbN ?_ | refine Rt.jbE ?_)) | ((with_reducible (first | apply Rt.ld0 | apply Rt.ld1 | apply Rt.ld2 | apply Rt.ld3 | apply Rt.ld4 | apply Rt.ld5)); first | assumption | exact Lc.kp (by assumption) (by assumption)) | ((with_reducible apply Rt.ol); first | assumption | exact cell_kp (by assumption) (by assumption)) | ((with_reducible apply Rt.ckR); focus ((repeat (first | (with_reducible (first | refine Rt.fin ?_ | refine Rt.tL ?_ | refine Rt.tI ?_ | refine Rt.tB ?_ | refine Rt.tS ?_ | refine Rt.tP ?_ | refine Rt.tD ?_ | refine Rt.tM ?_ | refine Rt.tC ?_ | refine Rt.tN ?_ | refine Rt.tA ?_ | refine Rt.tG ?_ | refine Rt.tF ?_ | refine Rt.os ?_ | refine Rt.clS ?_ | refine Rt.jmN ?_ | refine Rt.jbN ?_ | refine Rt.jbE ?_)) | ((with_reducible (first | apply Rt.ld0 | apply Rt.ld1 | apply Rt.ld2 | apply Rt.ld3 | apply Rt.ld4 | apply Rt.ld5)); first | assumption | exact Lc.kp (by assumption) (by assumption)) | ((with_reducible apply Rt.ol); first | assumption | exact cell_kp (by assumption) (by assumption)))); exact Rt.some' rfl))))
      cases b with
      | true => exact Rt.cT rfl (Rt.endB (by simp) k4)
      | false =>
        refine Rt.cF rfl (Rt.cEe (Keep_spec (hx.kp k4) (hs.kp k4) hL (by omega) (by omega) (by omega) (by omega)) fun D e w5 h5 k5 => ?_)
        have k5 := k4.tr k5
        have e1 : keepR ss last xs = keepP ss last xs := by unfold keepR; rw [if_pos hr]
        have e2 : keepE xs = 0 := by unfold keepE; rw [if_pos hr]
        rw [e1] at h5 ⊢
        rw [e2]
        have hsub := keepP_sub (ss := ss) (last := last) xs
        refine Rt.cI (num_run n _ _) fun w6 k6 => Rt.cN (fun _ => ?_) fun h => absurd rfl h
        have k6' := k5.tr k6
        refine Rt.app0 hT (hs.kp k6').sl hs.nil (by omega) fun E c7 w7 o7 k7 => ?_
        (repeat (first | (with_reducible (first | refine Rt.fin ?_ | refine Rt.tL ?_ | refine Rt.tI ?_ | refine Rt.tB ?_ | refine Rt.tS ?_ | refine Rt.tP ?_ | refine Rt.tD ?_ | refine Rt.tM ?_ | refine Rt.tC ?_ | refine Rt.tN ?_ | refine Rt.tA ?_ | refine Rt.tG ?_ | refine Rt.tF ?_ | refine Rt.os ?_ | refine Rt.clS ?_ | refine Rt.jmN ?_ | refine Rt.jbN ?_ | refine Rt.jbE ?_)) | ((with_reducible (first | apply Rt.ld0 | apply Rt.ld1 | apply Rt.ld2 | apply Rt.ld3 | apply Rt.ld4 | apply Rt.ld5)); first | assumption | exact Lc.kp (by assumption) (by assumption)) | ((with_reducible apply Rt.ol); first | assumption | exact cell_kp (by assumption) (by assumption)) | ((with_reducible apply Rt.ckR); focus ((repeat (first | (with_reducible (first | refine Rt.fin ?_ | refine Rt.tL ?_ | refine Rt.tI ?_ | refine Rt.tB ?_ | refine Rt.tS ?_ | refine Rt.tP ?_ | refine Rt.tD ?_ | refine Rt.tM ?_ | refine Rt.tC ?_ | refine Rt.tN ?_ | refine Rt.tA ?_ | refine Rt.tG ?_ | refine Rt.tF ?_ | refine Rt.os ?_ | refine Rt.clS ?_ | refine Rt.jmN ?_ | refine Rt.jbN ?_ | refine Rt.jbE ?_)) | ((with_reducible (first | apply Rt.ld0 | apply Rt.ld1 | apply Rt.ld2 | apply Rt.ld3 | apply Rt.ld4 | apply Rt.ld5)); first | assumption | exact Lc.kp (by assumption) (by assumption)) | ((with_reducible apply Rt.ol); first | assumption | exact cell_kp (by assumption) (by assumption)))); exact Rt.some' rfl))))
        have k7' := k6'.tr k7
        refine Rt.alo [_] 1 rfl rfl (by decide) fun w8 o8 k8 => ?_
        have hsl := hs.len
        refine Rt.app hT (base := w6.heap.size) (xs := ss) (o7.kp k8) o8.sl.2 (fun h => by cases h) (by omega) (by have := k7.size; have := k8.size; omega) fun F c9 w9 o9 hk9 _ _ => ?_
        (repeat (first | (with_reducible (first | refine Rt.fin ?_ | refine Rt.tL ?_ | refine Rt.tI ?_ | refine Rt.tB ?_ | refine Rt.tS ?_ | refine Rt.tP ?_ | refine Rt.tD ?_ | refine Rt.tM ?_ | refine Rt.tC ?_ | refine Rt.tN ?_ | refine Rt.tA ?_ | refine Rt.tG ?_ | refine Rt.tF ?_ | refine Rt.os ?_ | refine Rt.clS ?_ | refine Rt.jmN ?_ | refine Rt.jbN ?_ | refine Rt.jbE ?_)) | ((with_reducible (first | apply Rt.ld0 | apply Rt.ld1 | apply Rt.ld2 | apply Rt.ld3 | apply Rt.ld4 | apply Rt.ld5)); first | assumption | exact Lc.kp (by assumption) (by assumption)) | ((with_reducible apply Rt.ol); first | assumption | exact cell_kp (by assumption) (by assumption)) | ((with_reducible apply Rt.ckR); focus ((repeat (first | (with_reducible (first | refine Rt.fin ?_ | refine Rt.tL ?_ | refine Rt.tI ?_ | refine Rt.tB ?_ | refine Rt.tS ?_ | refine Rt.tP ?_ | refine Rt.tD ?_ | refine Rt.tM ?_ | refine Rt.tC ?_ | refine Rt.tN ?_ | refine Rt.tA ?_ | refine Rt.tG ?_ | refine Rt.tF ?_ | refine Rt.os ?_ | refine Rt.clS ?_ | refine Rt.jmN ?_ | refine Rt.jbN ?_ | refine Rt.jbE ?_)) | ((with_reducible (first | apply Rt.ld0 | apply Rt.ld1 | apply Rt.ld2 | apply Rt.ld3 | apply Rt.ld4 | apply Rt.ld5)); first | assumption | exact Lc.kp (by assumption) (by assumption)) | ((with_reducible apply Rt.ol); first | assumption | exact cell_kp (by assumption) (by assumption)))); exact Rt.some' rfl))))
        have k69 : Kp w6 w9 := hk9 w6 (k7.tr k8) (Nat.le_refl _)
        have k9 := k6'.tr k69
        have hr2 := rising_sub hr hsub
        refine Rt.jb (Rt.mono (DropVisible_l0 (n := n) (hx.kp k9) ((h5.kp k6).kp k69) (o9.bv ?_) hL (fun z hz => hL z (hsub.subset hz)) (by omega) (by have := hsub.length_le; omega) (by omega) hn ?_ _ 0 n w9 (Nat.zero_add _) (by omega) (Kp.rfl' _)) ?_)
        · intro z hz
          rcases List.mem_append.1 hz with hz | hz
          · exact hs.rng z hz
          · rw [List.mem_singleton] at hz; subst hz; decide
        · intro q hq
          unfold visR
          rw [if_pos hr, if_pos hr2]
          refine visP_keepP xs hr ?_
          rcases List.mem_append.1 hq with hq | hq
          · exact .inl hq
          · rw [List.mem_singleton] at hq; subst hq
            exact .inr fun z hz => by have := hsq z hz; omega
        · rintro ⟨ex, vs, w10⟩ ⟨k10, h10, h11⟩
          dsimp only at k10 h10 h11
          subst h10 h11
          refine .inl ⟨.inr rfl, ?_⟩
          (repeat (first | (with_reducible (first | refine Rt.fin ?_ | refine Rt.tL ?_ | refine Rt.tI ?_ | refine Rt.tB ?_ | refine Rt.tS ?_ | refine Rt.tP ?_ | refine Rt.tD ?_ | refine Rt.tM ?_ | refine Rt.tC ?_ | refine Rt.tN ?_ | refine Rt.tA ?_ | refine Rt.tG ?_ | refine Rt.tF ?_ | refine Rt.os ?_ | refine Rt.clS ?_ | refine Rt.jmN ?_ | refine Rt.jbN ?_ | refine Rt.jbE ?_)) | ((with_reducible (first | apply Rt.ld0 | apply Rt.ld1 | apply Rt.ld2 | apply Rt.ld3 | apply Rt.ld4 | apply Rt.ld5)); first | assumption | exact Lc.kp (by assumption) (by assumption)) | ((with_reducible apply Rt.ol); first | assumption | exact cell_kp (by assumption) (by assumption)) | ((with_reducible apply Rt.ckR); focus ((repeat (first | (with_reducible (first | refine Rt.fin ?_ | refine Rt.tL ?_ | refine Rt.tI ?_ | refine Rt.tB ?_ | refine Rt.tS ?_ | refine Rt.tP ?_ | refine Rt.tD ?_ | refine Rt.tM ?_ | refine Rt.tC ?_ | refine Rt.tN ?_ | refine Rt.tA ?_ | refine Rt.tG ?_ | refine Rt.tF ?_ | refine Rt.os ?_ | refine Rt.clS ?_ | refine Rt.jmN ?_ | refine Rt.jbN ?_ | refine Rt.jbE ?_)) | ((with_reducible (first | apply Rt.ld0 | apply Rt.ld1 | apply Rt.ld2 | apply Rt.ld3 | apply Rt.ld4 | apply Rt.ld5)); first | assumption | exact Lc.kp (by assumption) (by assumption)) | ((with_reducible apply Rt.ol); first | assumption | exact cell_kp (by assumption) (by assumption)))); exact Rt.some' rfl))))
          exact Rt.endB (by simp) (k9.tr k10)
end
end Go.Proofs.Ytoilmnplocfipaa.Dr
