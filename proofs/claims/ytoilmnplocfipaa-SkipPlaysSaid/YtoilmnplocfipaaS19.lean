/- SkipPlays. -/
import Derived.Test.YtoilmnplocfipaaS18
import Derived.Test.YtoilmnplocfipaaS12
namespace Go.Proofs.Ytoilmnplocfipaa.Sk
open Go Big Go.RowKit Go.IntWalk Ik
set_option linter.unusedVariables false
set_option linter.unusedSimpArgs false
section
variable {α : Type} {Q : α → Prop} {n base b rb ob : Nat} {w w' w0 : World} {S T R : Nat → Prop} {A B C : Option Addr} {c l m d p q : Nat} {ks js : List (En × Nat)} {x : En} {xs : List En} {hs : List Int} {k : Key} {s0 k0 : Int}
theorem Rt.ixI {k : IntKind} {xs : List Int} (hs : Sl k w A l xs) {i : Int} (h0 : 0 ≤ i) (h1 : i < l) {f : Addr → Option α} (h : ∀ a, w.cell? a = some (.int k (xs.getD i.toNat 0)) → Rt (f a) Q) : Rt (ixA A l i 1 f) Q := by
  obtain ⟨a, rfl, hc⟩ := hs.at_ h0 h1
  have : ixA (some a) l i 1 f = f (a.add i.toNat) := by simp [ixA, h0, h1]
  rw [this]; exact h _ hc
theorem Rt.ixW {xs : List Int} {e : TypeId} {k : IntKind} (ho : Own k e w base (.slice A l c) xs) {i : Int} (h0 : 0 ≤ i) (h1 : i < l) {x : Int} {f : World → Option α} (h : ∀ w1, Own k e w1 base (.slice A l c) (xs.set i.toNat x) → Gx (On (.slice A l c)) w w1 → Rt (f w1) Q) : Rt (ixA A l i 1 fun a => stC w a (.int k x) f) Q := by
  obtain ⟨a, w1, rfl, _, _, h2, h3, h4⟩ := ho.store h0 h1 x
  rw [h4]
  exact h w1 h2 ((Gx.of_grown h3).wide fun k _ e => e)
theorem Plays_l1 {e0 : Nat} {V : Option Addr} {vl vc : Nat} {X0 X1 X2 : Option Addr} {y0 y1 y2 z0 z1 z2 : Nat} {P0 P1 P2 : Option Addr} {i : Int} {c0 c1 c2 : Value} (hl : Lc w e0 [c0, c1, c2, .slice V vl vc]) (he : ¬ On (.slice V vl vc) e0) (hvl : vl < 2 ^ 62) : ∀ (f k j : Nat) (w' : World) (vs : List Int), k + f = vl → f < j → Gx (On (.slice V vl vc)) w w' → Own .u8 5 w' base (.slice V vl vc) vs →
    Rt (butterylaw9_SkipPlays.l1 n j X0 y0 z0 X1 y1 z1 X2 y2 z2 P0 P1 P2 i ⟨e0, 0, none⟩ (k : Int) w') fun r => r.ex = .exit 2 ∧ r.vals = [.slice X0 y0 z0, .slice X1 y1 z1, .slice X2 y2 z2, .pointer P0, .pointer P1, .pointer P2, .int .i64 i] ∧ Gx (On (.slice V vl vc)) w r.w := by
  intro f
  induction f with
  | zero =>
    intro k j w' vs hk hj hg ho
    obtain ⟨j, rfl⟩ : ∃ j', j = j' + 1 := ⟨j - 1, by omega⟩
    rw [butterylaw9_SkipPlays.l1_succ]
    have l0 := hl.gx hg he
    (repeat (first | (with_reducible (first | refine Rt.fin ?_ | refine Rt.tL ?_ | refine Rt.tI ?_ | refine Rt.tB ?_ | refine Rt.tS ?_ | refine Rt.tP ?_ | refine Rt.tD ?_ | refine Rt.tM ?_ | refine Rt.tC ?_ | refine Rt.tN ?_ | refine Rt.tA ?_ | refine Rt.tG ?_ | refine Rt.tF ?_ | refine Rt.os ?_ | refine Rt.clS ?_ | refine Rt.jmN ?_ | refine Rt.jbN ?_ | refine Rt.jbE ?_)) | ((with_reducible (first | apply Rt.ld0 | apply Rt.ld1 | apply Rt.ld2 | apply Rt.ld3 | apply Rt.ld4 | apply Rt.ld5)); first | assumption | exact Lc.kp (by assumption) (by assumption)) | ((with_reducible apply Rt.ol); first | assumption | exact cell_kp (by assumption) (by assumption)) | ((with_reducible apply Rt.ckR); focus ((repeat (first | (with_reducible (first | refine Rt.fin ?_ | refine Rt.tL ?_ | refine Rt.tI ?_ | refine Rt.tB ?_ | refine Rt.tS ?_ | refine Rt.tP ?_ | refine Rt.tD ?_ | refine Rt.tM ?_ | refine Rt.tC ?_ | refine Rt.tN ?_ | refine Rt.tA ?_ | refine Rt.tG ?_ | refine Rt.tF ?_ | refine Rt.os ?_ | refine Rt.clS ?_ | refine Rt.jmN ?_ | refine Rt.jbN ?_ | refine Rt.jbE ?_)) | ((with_reducible (first | apply Rt.ld0 | apply Rt.ld1 | apply Rt.ld2 | apply Rt.ld3 | apply Rt.ld4 | apply Rt.ld5)); first | assumption | exact Lc.kp (by assumption) (by assumption)) | ((with_reducible apply Rt.ol); first | assumption | exact cell_kp (by assumption) (by assumption)))); exact Rt.some' rfl))))
    exact Rt.cDF (by omega) (Rt.some' ⟨rfl, rfl, hg⟩)
  | succ f ih =>
    intro k j w' vs hk hj hg ho
    obtain ⟨j, rfl⟩ : ∃ j', j = j' + 1 := ⟨j - 1, by omega⟩
    rw [butterylaw9_SkipPlays.l1_succ]
    have l0 := hl.gx hg he
    have l0d := l0.kp (Kp.rfl' w').dr
    (repeat (first | (with_reducible (first | refine Rt.fin ?_ | refine Rt.tL ?_ | refine Rt.tI ?_ | refine Rt.tB ?_ | refine Rt.tS ?_ | refine Rt.tP ?_ | refine Rt.tD ?_ | refine Rt.tM ?_ | refine Rt.tC ?_ | refine Rt.tN ?_ | refine Rt.tA ?_ | refine Rt.tG ?_ | refine Rt.tF ?_ | refine Rt.os ?_ | refine Rt.clS ?_ | refine Rt.jmN ?_ | refine Rt.jbN ?_ | refine Rt.jbE ?_)) | ((with_reducible (first | apply Rt.ld0 | apply Rt.ld1 | apply Rt.ld2 | apply Rt.ld3 | apply Rt.ld4 | apply Rt.ld5)); first | assumption | exact Lc.kp (by assumption) (by assumption)) | ((with_reducible apply Rt.ol); first | assumption | exact cell_kp (by assumption) (by assumption)) | ((with_reducible apply Rt.ckR); focus ((repeat (first | (with_reducible (first | refine Rt.fin ?_ | refine Rt.tL ?_ | refine Rt.tI ?_ | refine Rt.tB ?_ | refine Rt.tS ?_ | refine Rt.tP ?_ | refine Rt.tD ?_ | refine Rt.tM ?_ | refine Rt.tC ?_ | refine Rt.tN ?_ | refine Rt.tA ?_ | refine Rt.tG ?_ | refine Rt.tF ?_ | refine Rt.os ?_ | refine Rt.clS ?_ | refine Rt.jmN ?_ | refine Rt.jbN ?_ | refine Rt.jbE ?_)) | ((with_reducible (first | apply Rt.ld0 | apply Rt.ld1 | apply Rt.ld2 | apply Rt.ld3 | apply Rt.ld4 | apply Rt.ld5)); first | assumption | exact Lc.kp (by assumption) (by assumption)) | ((with_reducible apply Rt.ol); first | assumption | exact cell_kp (by assumption) (by assumption)))); exact Rt.some' rfl))))
    refine Rt.cDT (by omega) ?_
    (repeat (first | (with_reducible (first | refine Rt.fin ?_ | refine Rt.tL ?_ | refine Rt.tI ?_ | refine Rt.tB ?_ | refine Rt.tS ?_ | refine Rt.tP ?_ | refine Rt.tD ?_ | refine Rt.tM ?_ | refine Rt.tC ?_ | refine Rt.tN ?_ | refine Rt.tA ?_ | refine Rt.tG ?_ | refine Rt.tF ?_ | refine Rt.os ?_ | refine Rt.clS ?_ | refine Rt.jmN ?_ | refine Rt.jbN ?_ | refine Rt.jbE ?_)) | ((with_reducible (first | apply Rt.ld0 | apply Rt.ld1 | apply Rt.ld2 | apply Rt.ld3 | apply Rt.ld4 | apply Rt.ld5)); first | assumption | exact Lc.kp (by assumption) (by assumption)) | ((with_reducible apply Rt.ol); first | assumption | exact cell_kp (by assumption) (by assumption)) | ((with_reducible apply Rt.ckR); focus ((repeat (first | (with_reducible (first | refine Rt.fin ?_ | refine Rt.tL ?_ | refine Rt.tI ?_ | refine Rt.tB ?_ | refine Rt.tS ?_ | refine Rt.tP ?_ | refine Rt.tD ?_ | refine Rt.tM ?_ | refine Rt.tC ?_ | refine Rt.tN ?_ | refine Rt.tA ?_ | refine Rt.tG ?_ | refine Rt.tF ?_ | refine Rt.os ?_ | refine Rt.clS ?_ | refine Rt.jmN ?_ | refine Rt.jbN ?_ | refine Rt.jbE ?_)) | ((with_reducible (first | apply Rt.ld0 | apply Rt.ld1 | apply Rt.ld2 | apply Rt.ld3 | apply Rt.ld4 | apply Rt.ld5)); first | assumption | exact Lc.kp (by assumption) (by assumption)) | ((with_reducible apply Rt.ol); first | assumption | exact cell_kp (by assumption) (by assumption)))); exact Rt.some' rfl))))
    have hod := ho.dr
    refine Rt.ix hod.sl.2 (by omega) (by omega) (Rt.ixW hod (by omega) (by omega) fun w1 o1 g1 => ?_)
    rw [i64_in _ (by omega), show ((k : Int) + 1) = ((k + 1 : Nat) : Int) by omega]
    exact ih (k + 1) j w1 _ (by omega) (by omega) (hg.dr.tr g1) o1
theorem Plays_l0 (hx : Ev enEl w A l c xs) (hv : Bv .i64 w B m d hs) (hlm : l ≤ m) (hl : l ≤ 60) (hL : ∀ y ∈ xs, y.key.length ≤ 300 ∧ y.val.length ≤ 300) (hn : 2 ^ 60 < n) : ∀ (f i j : Nat) (S T U : Nat → Prop) (js : List (En × Nat)) (w' : World), i + f = l → f < j → Kp w w' → (∀ z, S z ∨ T z ∨ U z → w.heap.size ≤ z) → (∀ z, S z → ¬ T z) → (∀ z, S z → ¬ U z) → (∀ z, T z → ¬ U z) →
    SkA w' w.heap.size b S (accA xs hs i) → SkA w' w.heap.size ob T js → js.length ≤ i → Rf w' w.heap.size rb U (accA xs hs i) →
    Rt (butterylaw9_SkipPlays.l0 n j A l c B m d C p q (some ⟨b, 0, none⟩) (some ⟨ob, 0, none⟩) (some ⟨rb, 0, none⟩) (i : Int) w') fun r => r.ex = .exit 0 ∧ r.vals = [.slice C p q, pt b, pt rb] ∧ Kp w r.w ∧ ∃ S U, SkA r.w w.heap.size b S (accA xs hs l) ∧ Rf r.w w.heap.size rb U (accA xs hs l) := by
  have hxl := hx.len
  intro f
  induction f with
  | zero =>
    intro i j S T U js w' hi hj hk hlo hST hSU hTU hS hO hJ hR
    obtain ⟨j, rfl⟩ : ∃ j', j = j' + 1 := ⟨j - 1, by omega⟩
    obtain rfl : i = l := by omega
    rw [butterylaw9_SkipPlays.l0_succ]
    exact Rt.cDF (by omega) (Rt.some' ⟨rfl, rfl, hk, S, U, hS, hR⟩)
  | succ f ih =>
    intro i j S T U js w' hi hj hk hlo hST hSU hTU hS hO hJ hR
    obtain ⟨j, rfl⟩ : ∃ j', j = j' + 1 := ⟨j - 1, by omega⟩
    rw [butterylaw9_SkipPlays.l0_succ]
    have hal := accA_len (xs := xs) (hs := hs) i
    obtain ⟨H, hH, hH'⟩ := int_at hv (i := i) (by omega)
    refine Rt.cDT (by omega) (Rt.ixN hx.sl (by omega) (by omega) fun y a B1 b1 b2 s k' C1 c1 c2 ey he g0 g1 g2 g3 => ?_)
    rw [Int.toNat_natCast] at ey
    have hyl := hL _ (List.mem_of_getElem? ey)
    have e1 := he.key.len
    have e2 := he.val.len
    (repeat (first | (with_reducible (first | refine Rt.fin ?_ | refine Rt.tL ?_ | refine Rt.tI ?_ | refine Rt.tB ?_ | refine Rt.tS ?_ | refine Rt.tP ?_ | refine Rt.tD ?_ | refine Rt.tM ?_ | refine Rt.tC ?_ | refine Rt.tN ?_ | refine Rt.tA ?_ | refine Rt.tG ?_ | refine Rt.tF ?_ | refine Rt.os ?_ | refine Rt.clS ?_ | refine Rt.jmN ?_ | refine Rt.jbN ?_ | refine Rt.jbE ?_)) | ((with_reducible (first | apply Rt.ld0 | apply Rt.ld1 | apply Rt.ld2 | apply Rt.ld3 | apply Rt.ld4 | apply Rt.ld5)); first | assumption | exact Lc.kp (by assumption) (by assumption)) | ((with_reducible apply Rt.ol); first | assumption | exact cell_kp (by assumption) (by assumption)) | ((with_reducible apply Rt.ckR); focus ((repeat (first | (with_reducible (first | refine Rt.fin ?_ | refine Rt.tL ?_ | refine Rt.tI ?_ | refine Rt.tB ?_ | refine Rt.tS ?_ | refine Rt.tP ?_ | refine Rt.tD ?_ | refine Rt.tM ?_ | refine Rt.tC ?_ | refine Rt.tN ?_ | refine Rt.tA ?_ | refine Rt.tG ?_ | refine Rt.tF ?_ | refine Rt.os ?_ | refine Rt.clS ?_ | refine Rt.jmN ?_ | refine Rt.jbN ?_ | refine Rt.jbE ?_)) | ((with_reducible (first | apply Rt.ld0 | apply Rt.ld1 | apply Rt.ld2 | apply Rt.ld3 | apply Rt.ld4 | apply Rt.ld5)); first | assumption | exact Lc.kp (by assumption) (by assumption)) | ((with_reducible apply Rt.ol); first | assumption | exact cell_kp (by assumption) (by assumption)))); exact Rt.some' rfl))))
    refine Rt.cEn (Copy_spec (he.kp hk) (by omega) (by omega)) fun A3 c3 B3 d3 w3 o3 p3 k3 => ?_
    (repeat (first | (with_reducible (first | refine Rt.fin ?_ | refine Rt.tL ?_ | refine Rt.tI ?_ | refine Rt.tB ?_ | refine Rt.tS ?_ | refine Rt.tP ?_ | refine Rt.tD ?_ | refine Rt.tM ?_ | refine Rt.tC ?_ | refine Rt.tN ?_ | refine Rt.tA ?_ | refine Rt.tG ?_ | refine Rt.tF ?_ | refine Rt.os ?_ | refine Rt.clS ?_ | refine Rt.jmN ?_ | refine Rt.jbN ?_ | refine Rt.jbE ?_)) | ((with_reducible (first | apply Rt.ld0 | apply Rt.ld1 | apply Rt.ld2 | apply Rt.ld3 | apply Rt.ld4 | apply Rt.ld5)); first | assumption | exact Lc.kp (by assumption) (by assumption)) | ((with_reducible apply Rt.ol); first | assumption | exact cell_kp (by assumption) (by assumption)) | ((with_reducible apply Rt.ckR); focus ((repeat (first | (with_reducible (first | refine Rt.fin ?_ | refine Rt.tL ?_ | refine Rt.tI ?_ | refine Rt.tB ?_ | refine Rt.tS ?_ | refine Rt.tP ?_ | refine Rt.tD ?_ | refine Rt.tM ?_ | refine Rt.tC ?_ | refine Rt.tN ?_ | refine Rt.tA ?_ | refine Rt.tG ?_ | refine Rt.tF ?_ | refine Rt.os ?_ | refine Rt.clS ?_ | refine Rt.jmN ?_ | refine Rt.jbN ?_ | refine Rt.jbE ?_)) | ((with_reducible (first | apply Rt.ld0 | apply Rt.ld1 | apply Rt.ld2 | apply Rt.ld3 | apply Rt.ld4 | apply Rt.ld5)); first | assumption | exact Lc.kp (by assumption) (by assumption)) | ((with_reducible apply Rt.ol); first | assumption | exact cell_kp (by assumption) (by assumption)))); exact Rt.some' rfl))))
    refine Rt.al4 fun w4 l4 k4 s4 => ?_
    have z0 := hk.size
    have z3 := k3.size
    have z4 := k4.size
    have k34 := (k3.tr k4).dr
    have hk4 := hk.tr k34
    have l4d := l4.kp (Kp.rfl' w4).dr
    have o4 := (o3.kp k4).kp (Kp.rfl' w4).dr
    have p4 := (p3.kp k4).kp (Kp.rfl' w4).dr
    have he4 : EnV w4.drew A3 y.key.length c3 y.seq y.kind B3 y.val.length d3 y := ⟨o4.bv he.key.rng, rfl, rfl, he.rs, he.rk, p4.bv he.val.rng⟩
    (repeat (first | (with_reducible (first | refine Rt.fin ?_ | refine Rt.tL ?_ | refine Rt.tI ?_ | refine Rt.tB ?_ | refine Rt.tS ?_ | refine Rt.tP ?_ | refine Rt.tD ?_ | refine Rt.tM ?_ | refine Rt.tC ?_ | refine Rt.tN ?_ | refine Rt.tA ?_ | refine Rt.tG ?_ | refine Rt.tF ?_ | refine Rt.os ?_ | refine Rt.clS ?_ | refine Rt.jmN ?_ | refine Rt.jbN ?_ | refine Rt.jbE ?_)) | ((with_reducible (first | apply Rt.ld0 | apply Rt.ld1 | apply Rt.ld2 | apply Rt.ld3 | apply Rt.ld4 | apply Rt.ld5)); first | assumption | exact Lc.kp (by assumption) (by assumption)) | ((with_reducible apply Rt.ol); first | assumption | exact cell_kp (by assumption) (by assumption)) | ((with_reducible apply Rt.ckR); focus ((repeat (first | (with_reducible (first | refine Rt.fin ?_ | refine Rt.tL ?_ | refine Rt.tI ?_ | refine Rt.tB ?_ | refine Rt.tS ?_ | refine Rt.tP ?_ | refine Rt.tD ?_ | refine Rt.tM ?_ | refine Rt.tC ?_ | refine Rt.tN ?_ | refine Rt.tA ?_ | refine Rt.tG ?_ | refine Rt.tF ?_ | refine Rt.os ?_ | refine Rt.clS ?_ | refine Rt.jmN ?_ | refine Rt.jbN ?_ | refine Rt.jbE ?_)) | ((with_reducible (first | apply Rt.ld0 | apply Rt.ld1 | apply Rt.ld2 | apply Rt.ld3 | apply Rt.ld4 | apply Rt.ld5)); first | assumption | exact Lc.kp (by assumption) (by assumption)) | ((with_reducible apply Rt.ol); first | assumption | exact cell_kp (by assumption) (by assumption)))); exact Rt.some' rfl))))
    refine Rt.ixI hv.sl (by omega) (by omega) fun ad had => ?_
    rw [Int.toNat_natCast, hH'] at had
    (repeat (first | (with_reducible (first | refine Rt.fin ?_ | refine Rt.tL ?_ | refine Rt.tI ?_ | refine Rt.tB ?_ | refine Rt.tS ?_ | refine Rt.tP ?_ | refine Rt.tD ?_ | refine Rt.tM ?_ | refine Rt.tC ?_ | refine Rt.tN ?_ | refine Rt.tA ?_ | refine Rt.tG ?_ | refine Rt.tF ?_ | refine Rt.os ?_ | refine Rt.clS ?_ | refine Rt.jmN ?_ | refine Rt.jbN ?_ | refine Rt.jbE ?_)) | ((with_reducible (first | apply Rt.ld0 | apply Rt.ld1 | apply Rt.ld2 | apply Rt.ld3 | apply Rt.ld4 | apply Rt.ld5)); first | assumption | exact Lc.kp (by assumption) (by assumption)) | ((with_reducible apply Rt.ol); first | assumption | exact cell_kp (by assumption) (by assumption)) | ((with_reducible apply Rt.ckR); focus ((repeat (first | (with_reducible (first | refine Rt.fin ?_ | refine Rt.tL ?_ | refine Rt.tI ?_ | refine Rt.tB ?_ | refine Rt.tS ?_ | refine Rt.tP ?_ | refine Rt.tD ?_ | refine Rt.tM ?_ | refine Rt.tC ?_ | refine Rt.tN ?_ | refine Rt.tA ?_ | refine Rt.tG ?_ | refine Rt.tF ?_ | refine Rt.os ?_ | refine Rt.clS ?_ | refine Rt.jmN ?_ | refine Rt.jbN ?_ | refine Rt.jbE ?_)) | ((with_reducible (first | apply Rt.ld0 | apply Rt.ld1 | apply Rt.ld2 | apply Rt.ld3 | apply Rt.ld4 | apply Rt.ld5)); first | assumption | exact Lc.kp (by assumption) (by assumption)) | ((with_reducible apply Rt.ol); first | assumption | exact cell_kp (by assumption) (by assumption)))); exact Rt.some' rfl))))
    have hS4 := hS.kp k34
    refine Rt.cRF (Insert_spec (H := H) hS4 he4 hk4.size (by omega) hn) fun w5 S' g5 y5 h5 => ?_
    rw [← accA_succ ey hH] at h5
    (repeat (first | (with_reducible (first | refine Rt.fin ?_ | refine Rt.tL ?_ | refine Rt.tI ?_ | refine Rt.tB ?_ | refine Rt.tS ?_ | refine Rt.tP ?_ | refine Rt.tD ?_ | refine Rt.tM ?_ | refine Rt.tC ?_ | refine Rt.tN ?_ | refine Rt.tA ?_ | refine Rt.tG ?_ | refine Rt.tF ?_ | refine Rt.os ?_ | refine Rt.clS ?_ | refine Rt.jmN ?_ | refine Rt.jbN ?_ | refine Rt.jbE ?_)) | ((with_reducible (first | apply Rt.ld0 | apply Rt.ld1 | apply Rt.ld2 | apply Rt.ld3 | apply Rt.ld4 | apply Rt.ld5)); first | assumption | exact Lc.kp (by assumption) (by assumption)) | ((with_reducible apply Rt.ol); first | assumption | exact cell_kp (by assumption) (by assumption)) | ((with_reducible apply Rt.ckR); focus ((repeat (first | (with_reducible (first | refine Rt.fin ?_ | refine Rt.tL ?_ | refine Rt.tI ?_ | refine Rt.tB ?_ | refine Rt.tS ?_ | refine Rt.tP ?_ | refine Rt.tD ?_ | refine Rt.tM ?_ | refine Rt.tC ?_ | refine Rt.tN ?_ | refine Rt.tA ?_ | refine Rt.tG ?_ | refine Rt.tF ?_ | refine Rt.os ?_ | refine Rt.clS ?_ | refine Rt.jmN ?_ | refine Rt.jbN ?_ | refine Rt.jbE ?_)) | ((with_reducible (first | apply Rt.ld0 | apply Rt.ld1 | apply Rt.ld2 | apply Rt.ld3 | apply Rt.ld4 | apply Rt.ld5)); first | assumption | exact Lc.kp (by assumption) (by assumption)) | ((with_reducible apply Rt.ol); first | assumption | exact cell_kp (by assumption) (by assumption)))); exact Rt.some' rfl))))
    have hp3 := p3.lt
    have z34 := k34.size
    have z4d : w4.drew.heap.size = w4.heap.size := rfl
    have hS'o : ∀ z, S' z → S z ∨ w4.drew.heap.size ≤ z := y5
    have hk5 : Kp w w5 := hk4.tx g5 fun z hz => hlo z (.inl hz)
    have hO5 := (hO.kp k34).gx g5 fun z hz hs => hST z hs hz
    have hR5 := (hR.kp k34).gx g5 fun z hz hs => hSU z hs hz
    have hSlt : ∀ z, S z → z < w'.heap.size := fun z hz => (hS.lt hz).2
    have hTlt : ∀ z, T z → z < w'.heap.size := fun z hz => (hO.lt hz).2
    have hUlt : ∀ z, U z → z < w'.heap.size := fun z hz => (hR.lt hz).2
    have l5 := l4d.gx g5 fun hz => by have := hSlt _ hz; omega
    have p5 := p4.gx g5 fun z hz hs => by have := (hp3 z hz).1; have := hSlt _ hs; omega
    refine Rt.cI (num_run n _ _) fun w6 k6 => ?_
    have hk6 := hk5.tr k6
    have he6 := he.kp hk6
    refine Rt.ixN hx.sl (by omega) (by omega) fun y2 a' B1' b1' b2' s' k'' C1' c1' c2' ey' he' g0' g1' g2' g3' => ?_
    rw [Int.toNat_natCast, ey] at ey'
    injection ey' with ey'
    subst ey'
    (repeat (first | (with_reducible (first | refine Rt.fin ?_ | refine Rt.tL ?_ | refine Rt.tI ?_ | refine Rt.tB ?_ | refine Rt.tS ?_ | refine Rt.tP ?_ | refine Rt.tD ?_ | refine Rt.tM ?_ | refine Rt.tC ?_ | refine Rt.tN ?_ | refine Rt.tA ?_ | refine Rt.tG ?_ | refine Rt.tF ?_ | refine Rt.os ?_ | refine Rt.clS ?_ | refine Rt.jmN ?_ | refine Rt.jbN ?_ | refine Rt.jbE ?_)) | ((with_reducible (first | apply Rt.ld0 | apply Rt.ld1 | apply Rt.ld2 | apply Rt.ld3 | apply Rt.ld4 | apply Rt.ld5)); first | assumption | exact Lc.kp (by assumption) (by assumption)) | ((with_reducible apply Rt.ol); first | assumption | exact cell_kp (by assumption) (by assumption)) | ((with_reducible apply Rt.ckR); focus ((repeat (first | (with_reducible (first | refine Rt.fin ?_ | refine Rt.tL ?_ | refine Rt.tI ?_ | refine Rt.tB ?_ | refine Rt.tS ?_ | refine Rt.tP ?_ | refine Rt.tD ?_ | refine Rt.tM ?_ | refine Rt.tC ?_ | refine Rt.tN ?_ | refine Rt.tA ?_ | refine Rt.tG ?_ | refine Rt.tF ?_ | refine Rt.os ?_ | refine Rt.clS ?_ | refine Rt.jmN ?_ | refine Rt.jbN ?_ | refine Rt.jbE ?_)) | ((with_reducible (first | apply Rt.ld0 | apply Rt.ld1 | apply Rt.ld2 | apply Rt.ld3 | apply Rt.ld4 | apply Rt.ld5)); first | assumption | exact Lc.kp (by assumption) (by assumption)) | ((with_reducible apply Rt.ol); first | assumption | exact cell_kp (by assumption) (by assumption)))); exact Rt.some' rfl))))
    refine Rt.ixI hv.sl (by omega) (by omega) fun ad2 had2 => ?_
    rw [Int.toNat_natCast, hH'] at had2
    (repeat (first | (with_reducible (first | refine Rt.fin ?_ | refine Rt.tL ?_ | refine Rt.tI ?_ | refine Rt.tB ?_ | refine Rt.tS ?_ | refine Rt.tP ?_ | refine Rt.tD ?_ | refine Rt.tM ?_ | refine Rt.tC ?_ | refine Rt.tN ?_ | refine Rt.tA ?_ | refine Rt.tG ?_ | refine Rt.tF ?_ | refine Rt.os ?_ | refine Rt.clS ?_ | refine Rt.jmN ?_ | refine Rt.jbN ?_ | refine Rt.jbE ?_)) | ((with_reducible (first | apply Rt.ld0 | apply Rt.ld1 | apply Rt.ld2 | apply Rt.ld3 | apply Rt.ld4 | apply Rt.ld5)); first | assumption | exact Lc.kp (by assumption) (by assumption)) | ((with_reducible apply Rt.ol); first | assumption | exact cell_kp (by assumption) (by assumption)) | ((with_reducible apply Rt.ckR); focus ((repeat (first | (with_reducible (first | refine Rt.fin ?_ | refine Rt.tL ?_ | refine Rt.tI ?_ | refine Rt.tB ?_ | refine Rt.tS ?_ | refine Rt.tP ?_ | refine Rt.tD ?_ | refine Rt.tM ?_ | refine Rt.tC ?_ | refine Rt.tN ?_ | refine Rt.tA ?_ | refine Rt.tG ?_ | refine Rt.tF ?_ | refine Rt.os ?_ | refine Rt.clS ?_ | refine Rt.jmN ?_ | refine Rt.jbN ?_ | refine Rt.jbE ?_)) | ((with_reducible (first | apply Rt.ld0 | apply Rt.ld1 | apply Rt.ld2 | apply Rt.ld3 | apply Rt.ld4 | apply Rt.ld5)); first | assumption | exact Lc.kp (by assumption) (by assumption)) | ((with_reducible apply Rt.ol); first | assumption | exact cell_kp (by assumption) (by assumption)))); exact Rt.some' rfl))))
    have hz6 := hk6.size
    have hRs := hS.srt
    refine Rt.cRF (RInsert_spec (H := H) (hR5.kp k6) hS.srt hS.ok (he'.kp hk6) hz6 (by omega) hn) fun w7 U' g7 y7 h7 => ?_
    rw [← accA_succ ey hH] at h7
    (repeat (first | (with_reducible (first | refine Rt.fin ?_ | refine Rt.tL ?_ | refine Rt.tI ?_ | refine Rt.tB ?_ | refine Rt.tS ?_ | refine Rt.tP ?_ | refine Rt.tD ?_ | refine Rt.tM ?_ | refine Rt.tC ?_ | refine Rt.tN ?_ | refine Rt.tA ?_ | refine Rt.tG ?_ | refine Rt.tF ?_ | refine Rt.os ?_ | refine Rt.clS ?_ | refine Rt.jmN ?_ | refine Rt.jbN ?_ | refine Rt.jbE ?_)) | ((with_reducible (first | apply Rt.ld0 | apply Rt.ld1 | apply Rt.ld2 | apply Rt.ld3 | apply Rt.ld4 | apply Rt.ld5)); first | assumption | exact Lc.kp (by assumption) (by assumption)) | ((with_reducible apply Rt.ol); first | assumption | exact cell_kp (by assumption) (by assumption)) | ((with_reducible apply Rt.ckR); focus ((repeat (first | (with_reducible (first | refine Rt.fin ?_ | refine Rt.tL ?_ | refine Rt.tI ?_ | refine Rt.tB ?_ | refine Rt.tS ?_ | refine Rt.tP ?_ | refine Rt.tD ?_ | refine Rt.tM ?_ | refine Rt.tC ?_ | refine Rt.tN ?_ | refine Rt.tA ?_ | refine Rt.tG ?_ | refine Rt.tF ?_ | refine Rt.os ?_ | refine Rt.clS ?_ | refine Rt.jmN ?_ | refine Rt.jbN ?_ | refine Rt.jbE ?_)) | ((with_reducible (first | apply Rt.ld0 | apply Rt.ld1 | apply Rt.ld2 | apply Rt.ld3 | apply Rt.ld4 | apply Rt.ld5)); first | assumption | exact Lc.kp (by assumption) (by assumption)) | ((with_reducible apply Rt.ol); first | assumption | exact cell_kp (by assumption) (by assumption)))); exact Rt.some' rfl))))
    refine Rt.cN (fun _ => ?_) fun h => absurd rfl h
    have z5 := g5.size
    have z6 := k6.size
    have hU6 : ∀ z, U z → w.heap.size ≤ z := fun z hz => hlo z (.inr (.inr hz))
    have hk7 : Kp w w7 := hk6.tx g7 hU6
    have hS7 := (h5.kp k6).gx g7 fun z hz hu => by
      rcases hS'o z hz with e | e
      · exact hSU z e hu
      · have := hUlt z hu; omega
    have hO7 := (hO5.kp k6).gx g7 fun z hz hu => hTU z hz hu
    have l7 := (l5.kp k6).gx g7 fun hz => by have := hUlt _ hz; omega
    have p7 := (p5.kp k6).gx g7 fun z hz hu => by have := (hp3 z hz).1; have := hUlt _ hu; omega
    refine Rt.jb (Rt.mono (Plays_l1 (n := n) l7 (fun ho => by have := (hp3 _ ho).2; omega) (by omega) y.val.length 0 n w7 _ (by omega) (by omega) (Gx.rfl' _ _) p7) ?_)
    rintro ⟨ex, vs, w8⟩ ⟨f1, f2, g8⟩
    dsimp only at f1 f2 g8
    subst f1 f2
    refine .inl ⟨.inr rfl, ?_⟩
    dsimp only
    (repeat (first | (with_reducible (first | refine Rt.fin ?_ | refine Rt.tL ?_ | refine Rt.tI ?_ | refine Rt.tB ?_ | refine Rt.tS ?_ | refine Rt.tP ?_ | refine Rt.tD ?_ | refine Rt.tM ?_ | refine Rt.tC ?_ | refine Rt.tN ?_ | refine Rt.tA ?_ | refine Rt.tG ?_ | refine Rt.tF ?_ | refine Rt.os ?_ | refine Rt.clS ?_ | refine Rt.jmN ?_ | refine Rt.jbN ?_ | refine Rt.jbE ?_)) | ((with_reducible (first | apply Rt.ld0 | apply Rt.ld1 | apply Rt.ld2 | apply Rt.ld3 | apply Rt.ld4 | apply Rt.ld5)); first | assumption | exact Lc.kp (by assumption) (by assumption)) | ((with_reducible apply Rt.ol); first | assumption | exact cell_kp (by assumption) (by assumption)) | ((with_reducible apply Rt.ckR); focus ((repeat (first | (with_reducible (first | refine Rt.fin ?_ | refine Rt.tL ?_ | refine Rt.tI ?_ | refine Rt.tB ?_ | refine Rt.tS ?_ | refine Rt.tP ?_ | refine Rt.tD ?_ | refine Rt.tM ?_ | refine Rt.tC ?_ | refine Rt.tN ?_ | refine Rt.tA ?_ | refine Rt.tG ?_ | refine Rt.tF ?_ | refine Rt.os ?_ | refine Rt.clS ?_ | refine Rt.jmN ?_ | refine Rt.jbN ?_ | refine Rt.jbE ?_)) | ((with_reducible (first | apply Rt.ld0 | apply Rt.ld1 | apply Rt.ld2 | apply Rt.ld3 | apply Rt.ld4 | apply Rt.ld5)); first | assumption | exact Lc.kp (by assumption) (by assumption)) | ((with_reducible apply Rt.ol); first | assumption | exact cell_kp (by assumption) (by assumption)))); exact Rt.some' rfl))))
    have hk8 : Kp w w8 := hk7.tx g8 fun z hz => by have := (hp3 z hz).1; omega
    have hS8 := hS7.gx g8 fun z hz ho => by
      have h1 := hp3 z ho
      rcases hS'o z hz with e | e
      · have := hSlt z e; omega
      · omega
    have hO8 := hO7.gx g8 fun z hz ho => by have h1 := hp3 z ho; have := hTlt z hz; omega
    have hR8 := h7.gx g8 fun z hz ho => by
      have h1 := hp3 z ho
      rcases y7 z hz with e | e
      · have := hUlt z e; omega
      · omega
    rw [u8w, Int.emod_eq_of_lt (by omega) (by omega)]
    refine Rt.alo [(i : Int)] 1 rfl rfl (by decide) fun w9 o9 k9 => ?_
    have hk9 := hk8.tr k9
    have he9 : EnV w9 (some ⟨w8.heap.size, 0, none⟩) 1 1 0 0 none 0 0 ⟨[(i : Int)], 0, 0, []⟩ := ⟨o9.bv fun z hz => (by simp at hz; subst hz; exact wf8 (by omega)), rfl, rfl, (show (Lit.int .u64 0).wf = true by decide), (show (Lit.int .i64 0).wf = true by decide), bv_nil⟩
    refine Rt.cRF (Insert_spec (H := 3) (hO8.kp k9) he9 hk9.size (by omega) hn) fun w10 T' g10 y10 h10 => ?_
    (repeat (first | (with_reducible (first | refine Rt.fin ?_ | refine Rt.tL ?_ | refine Rt.tI ?_ | refine Rt.tB ?_ | refine Rt.tS ?_ | refine Rt.tP ?_ | refine Rt.tD ?_ | refine Rt.tM ?_ | refine Rt.tC ?_ | refine Rt.tN ?_ | refine Rt.tA ?_ | refine Rt.tG ?_ | refine Rt.tF ?_ | refine Rt.os ?_ | refine Rt.clS ?_ | refine Rt.jmN ?_ | refine Rt.jbN ?_ | refine Rt.jbE ?_)) | ((with_reducible (first | apply Rt.ld0 | apply Rt.ld1 | apply Rt.ld2 | apply Rt.ld3 | apply Rt.ld4 | apply Rt.ld5)); first | assumption | exact Lc.kp (by assumption) (by assumption)) | ((with_reducible apply Rt.ol); first | assumption | exact cell_kp (by assumption) (by assumption)) | ((with_reducible apply Rt.ckR); focus ((repeat (first | (with_reducible (first | refine Rt.fin ?_ | refine Rt.tL ?_ | refine Rt.tI ?_ | refine Rt.tB ?_ | refine Rt.tS ?_ | refine Rt.tP ?_ | refine Rt.tD ?_ | refine Rt.tM ?_ | refine Rt.tC ?_ | refine Rt.tN ?_ | refine Rt.tA ?_ | refine Rt.tG ?_ | refine Rt.tF ?_ | refine Rt.os ?_ | refine Rt.clS ?_ | refine Rt.jmN ?_ | refine Rt.jbN ?_ | refine Rt.jbE ?_)) | ((with_reducible (first | apply Rt.ld0 | apply Rt.ld1 | apply Rt.ld2 | apply Rt.ld3 | apply Rt.ld4 | apply Rt.ld5)); first | assumption | exact Lc.kp (by assumption) (by assumption)) | ((with_reducible apply Rt.ol); first | assumption | exact cell_kp (by assumption) (by assumption)))); exact Rt.some' rfl))))
    have z7 := g7.size
    have z8 := g8.size
    have z9 := k9.size
    have hk10 : Kp w w10 := hk9.tx g10 fun z hz => hlo z (.inr (.inl hz))
    have hS10 := (hS8.kp k9).gx g10 fun z hz ht => by
      rcases hS'o z hz with e | e
      · exact hST z e ht
      · have := hTlt z ht; omega
    have hR10 := (hR8.kp k9).gx g10 fun z hz ht => by
      rcases y7 z hz with e | e
      · exact hTU z ht e
      · have := hTlt z ht; omega
    refine Rt.ixN hx.sl (by omega) (by omega) fun y2 a' B1'' b1'' b2'' s'' k''' C1'' c1'' c2'' ey' he'' g0'' g1'' g2'' g3'' => ?_
    rw [Int.toNat_natCast, ey] at ey'
    injection ey' with ey'
    subst ey'
    (repeat (first | (with_reducible (first | refine Rt.fin ?_ | refine Rt.tL ?_ | refine Rt.tI ?_ | refine Rt.tB ?_ | refine Rt.tS ?_ | refine Rt.tP ?_ | refine Rt.tD ?_ | refine Rt.tM ?_ | refine Rt.tC ?_ | refine Rt.tN ?_ | refine Rt.tA ?_ | refine Rt.tG ?_ | refine Rt.tF ?_ | refine Rt.os ?_ | refine Rt.clS ?_ | refine Rt.jmN ?_ | refine Rt.jbN ?_ | refine Rt.jbE ?_)) | ((with_reducible (first | apply Rt.ld0 | apply Rt.ld1 | apply Rt.ld2 | apply Rt.ld3 | apply Rt.ld4 | apply Rt.ld5)); first | assumption | exact Lc.kp (by assumption) (by assumption)) | ((with_reducible apply Rt.ol); first | assumption | exact cell_kp (by assumption) (by assumption)) | ((with_reducible apply Rt.ckR); focus ((repeat (first | (with_reducible (first | refine Rt.fin ?_ | refine Rt.tL ?_ | refine Rt.tI ?_ | refine Rt.tB ?_ | refine Rt.tS ?_ | refine Rt.tP ?_ | refine Rt.tD ?_ | refine Rt.tM ?_ | refine Rt.tC ?_ | refine Rt.tN ?_ | refine Rt.tA ?_ | refine Rt.tG ?_ | refine Rt.tF ?_ | refine Rt.os ?_ | refine Rt.clS ?_ | refine Rt.jmN ?_ | refine Rt.jbN ?_ | refine Rt.jbE ?_)) | ((with_reducible (first | apply Rt.ld0 | apply Rt.ld1 | apply Rt.ld2 | apply Rt.ld3 | apply Rt.ld4 | apply Rt.ld5)); first | assumption | exact Lc.kp (by assumption) (by assumption)) | ((with_reducible apply Rt.ol); first | assumption | exact cell_kp (by assumption) (by assumption)))); exact Rt.some' rfl))))
    have hal1 := accA_len (xs := xs) (hs := hs) (i + 1)
    refine Rt.cBt (same_spec hS10 hR10 (he''.kp hk10).kv hn (by omega)) trivial fun w11 k11 => Rt.cF rfl ?_
    rw [i64_in _ (by omega), show ((i : Int) + 1) = ((i + 1 : Nat) : Int) by omega]
    have hjl := insA_len (x := ⟨[(i : Int)], 0, 0, []⟩) (h := 3) (ks := js)
    refine ih (i + 1) j S' T' U' _ w11 (by omega) (by omega) (hk10.tr k11) (fun z hz => ?_) (fun z hs ht => ?_) (fun z hs hu => ?_) (fun z ht hu => ?_) (hS10.kp k11) (h10.kp k11) (by omega) (hR10.kp k11)
    · rcases hz with hz | hz | hz
      · rcases hS'o z hz with e | e
        · exact hlo z (.inl e)
        · omega
      · rcases y10 z hz with e | e
        · exact hlo z (.inr (.inl e))
        · have := hk9.size; omega
      · rcases y7 z hz with e | e
        · exact hlo z (.inr (.inr e))
        · omega
    · have hlt := (hS8.lt hs).2
      rcases y10 z ht with e | e
      · rcases hS'o z hs with e' | e'
        · exact hST z e' e
        · have := hTlt z e; omega
      · omega
    · rcases y7 z hu with e | e
      · rcases hS'o z hs with e' | e'
        · exact hSU z e' e
        · have := hUlt z e; omega
      · have := (h5.lt hs).2; omega
    · have hlt := (hR8.lt hu).2
      rcases y10 z ht with e | e
      · rcases y7 z hu with e' | e'
        · exact hTU z e e'
        · have := hTlt z e; omega
      · omega
def kyEl : El Key where
  sz := 3
  rd w vs x := ∃ A l c s k, vs = [.slice A l c, .int .u64 s, .int .i64 k] ∧ KeyV w A l c s k x
  kp := fun hk ⟨A, l, c, s, k, e, h⟩ => ⟨A, l, c, s, k, e, h.kp hk⟩
  one := fun {w vs x} ⟨A, l, c, s, k, e, h⟩ u hu => by subst e; simp only [List.mem_cons, List.not_mem_nil, or_false] at hu; rcases hu with rfl | rfl | rfl <;> rfl
theorem Rt.ixKy {zs : List Key} (hs : SlE kyEl w A l zs) {i : Int} (h0 : 0 ≤ i) (h1 : i < l) {f : Addr → Option α}
    (h : ∀ x a B b1 b2 s k, zs[i.toNat]? = some x → KeyV w B b1 b2 s k x → w.cell? a = some (.slice B b1 b2) → w.cell? (a.add 1) = some (.int .u64 s) → w.cell? (a.add 2) = some (.int .i64 k) → Rt (f a) Q) : Rt (ixA A l i 3 f) Q := by
  refine Rt.ixe (E := kyEl) hs rfl h0 h1 fun y a us e1 _ e3 e4 => ?_
  obtain ⟨B, b1, b2, s, k, rfl, hv⟩ := e3
  have c0 := e4 0 _ rfl
  rw [Addr.add_zero'] at c0
  exact h y a B b1 b2 s k e1 hv c0 (e4 1 _ rfl) (e4 2 _ rfl)
theorem Plays_l2 {zs : List Key} (hS : SkA w base b S ks) (hR : Rf w base rb T ks) (hz : Ev kyEl w C p q zs) (hp : p ≤ 20) (hn : 2 ^ 60 < n) (hN : ks.length ≤ 2 ^ 30) : ∀ (f i j : Nat) (w' : World), i + f = p → f < j → Kp w w' →
    Rt (butterylaw9_SkipPlays.l2 n j C p q (some ⟨b, 0, none⟩) (some ⟨rb, 0, none⟩) (i : Int) w') fun r => Kp w r.w ∧ (r.ex = .exit 4 ∧ r.vals = [pt b, pt rb] ∨ r.ex = .ret ∧ r.vals = [.bool true]) := by
  have hzl := hz.len
  intro f
  induction f with
  | zero =>
    intro i j w' hi hj hk
    obtain ⟨j, rfl⟩ : ∃ j', j = j' + 1 := ⟨j - 1, by omega⟩
    rw [butterylaw9_SkipPlays.l2_succ]
    exact Rt.cDF (by omega) (Rt.some' ⟨hk, .inl ⟨rfl, rfl⟩⟩)
  | succ f ih =>
    intro i j w' hi hj hk
    obtain ⟨j, rfl⟩ : ∃ j', j = j' + 1 := ⟨j - 1, by omega⟩
    rw [butterylaw9_SkipPlays.l2_succ]
    have hzk := (hz.kp hk).sl
    refine Rt.cDT (by omega) (Rt.ixKy hzk (by omega) (by omega) fun y a B1 b1 b2 s k' ey hv g0 g1 g2 => ?_)
    (repeat (first | (with_reducible (first | refine Rt.fin ?_ | refine Rt.tL ?_ | refine Rt.tI ?_ | refine Rt.tB ?_ | refine Rt.tS ?_ | refine Rt.tP ?_ | refine Rt.tD ?_ | refine Rt.tM ?_ | refine Rt.tC ?_ | refine Rt.tN ?_ | refine Rt.tA ?_ | refine Rt.tG ?_ | refine Rt.tF ?_ | refine Rt.os ?_ | refine Rt.clS ?_ | refine Rt.jmN ?_ | refine Rt.jbN ?_ | refine Rt.jbE ?_)) | ((with_reducible (first | apply Rt.ld0 | apply Rt.ld1 | apply Rt.ld2 | apply Rt.ld3 | apply Rt.ld4 | apply Rt.ld5)); first | assumption | exact Lc.kp (by assumption) (by assumption)) | ((with_reducible apply Rt.ol); first | assumption | exact cell_kp (by assumption) (by assumption)) | ((with_reducible apply Rt.ckR); focus ((repeat (first | (with_reducible (first | refine Rt.fin ?_ | refine Rt.tL ?_ | refine Rt.tI ?_ | refine Rt.tB ?_ | refine Rt.tS ?_ | refine Rt.tP ?_ | refine Rt.tD ?_ | refine Rt.tM ?_ | refine Rt.tC ?_ | refine Rt.tN ?_ | refine Rt.tA ?_ | refine Rt.tG ?_ | refine Rt.tF ?_ | refine Rt.os ?_ | refine Rt.clS ?_ | refine Rt.jmN ?_ | refine Rt.jbN ?_ | refine Rt.jbE ?_)) | ((with_reducible (first | apply Rt.ld0 | apply Rt.ld1 | apply Rt.ld2 | apply Rt.ld3 | apply Rt.ld4 | apply Rt.ld5)); first | assumption | exact Lc.kp (by assumption) (by assumption)) | ((with_reducible apply Rt.ol); first | assumption | exact cell_kp (by assumption) (by assumption)))); exact Rt.some' rfl))))
    refine Rt.cD (fun hgt => ?_) fun hle => ?_
    · refine Rt.ixKy hzk (by omega) (by omega) fun y' a' B1' b1' b2' s' k'' ey' hv' g0' g1' g2' => ?_
      rw [ey] at ey'
      injection ey' with ey'
      subst ey'
      have e1 := hv.key.len
      have e2 := hv'.key.len
      (repeat (first | (with_reducible (first | refine Rt.fin ?_ | refine Rt.tL ?_ | refine Rt.tI ?_ | refine Rt.tB ?_ | refine Rt.tS ?_ | refine Rt.tP ?_ | refine Rt.tD ?_ | refine Rt.tM ?_ | refine Rt.tC ?_ | refine Rt.tN ?_ | refine Rt.tA ?_ | refine Rt.tG ?_ | refine Rt.tF ?_ | refine Rt.os ?_ | refine Rt.clS ?_ | refine Rt.jmN ?_ | refine Rt.jbN ?_ | refine Rt.jbE ?_)) | ((with_reducible (first | apply Rt.ld0 | apply Rt.ld1 | apply Rt.ld2 | apply Rt.ld3 | apply Rt.ld4 | apply Rt.ld5)); first | assumption | exact Lc.kp (by assumption) (by assumption)) | ((with_reducible apply Rt.ol); first | assumption | exact cell_kp (by assumption) (by assumption)) | ((with_reducible apply Rt.ckR); focus ((repeat (first | (with_reducible (first | refine Rt.fin ?_ | refine Rt.tL ?_ | refine Rt.tI ?_ | refine Rt.tB ?_ | refine Rt.tS ?_ | refine Rt.tP ?_ | refine Rt.tD ?_ | refine Rt.tM ?_ | refine Rt.tC ?_ | refine Rt.tN ?_ | refine Rt.tA ?_ | refine Rt.tG ?_ | refine Rt.tF ?_ | refine Rt.os ?_ | refine Rt.clS ?_ | refine Rt.jmN ?_ | refine Rt.jbN ?_ | refine Rt.jbE ?_)) | ((with_reducible (first | apply Rt.ld0 | apply Rt.ld1 | apply Rt.ld2 | apply Rt.ld3 | apply Rt.ld4 | apply Rt.ld5)); first | assumption | exact Lc.kp (by assumption) (by assumption)) | ((with_reducible apply Rt.ol); first | assumption | exact cell_kp (by assumption) (by assumption)))); exact Rt.some' rfl))))
      exact Rt.some' ⟨hk, .inr ⟨rfl, by rw [decide_eq_true (by omega)]⟩⟩
    · refine Rt.ixKy hzk (by omega) (by omega) fun y' a' B1' b1' b2' s' k'' ey' hv' g0' g1' g2' => ?_
      (repeat (first | (with_reducible (first | refine Rt.fin ?_ | refine Rt.tL ?_ | refine Rt.tI ?_ | refine Rt.tB ?_ | refine Rt.tS ?_ | refine Rt.tP ?_ | refine Rt.tD ?_ | refine Rt.tM ?_ | refine Rt.tC ?_ | refine Rt.tN ?_ | refine Rt.tA ?_ | refine Rt.tG ?_ | refine Rt.tF ?_ | refine Rt.os ?_ | refine Rt.clS ?_ | refine Rt.jmN ?_ | refine Rt.jbN ?_ | refine Rt.jbE ?_)) | ((with_reducible (first | apply Rt.ld0 | apply Rt.ld1 | apply Rt.ld2 | apply Rt.ld3 | apply Rt.ld4 | apply Rt.ld5)); first | assumption | exact Lc.kp (by assumption) (by assumption)) | ((with_reducible apply Rt.ol); first | assumption | exact cell_kp (by assumption) (by assumption)) | ((with_reducible apply Rt.ckR); focus ((repeat (first | (with_reducible (first | refine Rt.fin ?_ | refine Rt.tL ?_ | refine Rt.tI ?_ | refine Rt.tB ?_ | refine Rt.tS ?_ | refine Rt.tP ?_ | refine Rt.tD ?_ | refine Rt.tM ?_ | refine Rt.tC ?_ | refine Rt.tN ?_ | refine Rt.tA ?_ | refine Rt.tG ?_ | refine Rt.tF ?_ | refine Rt.os ?_ | refine Rt.clS ?_ | refine Rt.jmN ?_ | refine Rt.jbN ?_ | refine Rt.jbE ?_)) | ((with_reducible (first | apply Rt.ld0 | apply Rt.ld1 | apply Rt.ld2 | apply Rt.ld3 | apply Rt.ld4 | apply Rt.ld5)); first | assumption | exact Lc.kp (by assumption) (by assumption)) | ((with_reducible apply Rt.ol); first | assumption | exact cell_kp (by assumption) (by assumption)))); exact Rt.some' rfl))))
      refine Rt.cBt (same_spec (hS.kp hk) (hR.kp hk) hv' hn hN) trivial fun w1 k1 => Rt.cF rfl ?_
      rw [i64_in _ (by omega), show ((i : Int) + 1) = ((i + 1 : Nat) : Int) by omega]
      exact ih (i + 1) j w1 (by omega) (by omega) (hk.tr k1)
theorem level_le (q : Int) : (levelA q ks).length ≤ ks.length := by
  unfold levelA
  split
  · rw [List.length_map]; exact List.length_filter_le _ _
  · exact Nat.zero_le _
theorem Plays_l3 (hS : SkA w base b S ks) (hR : Rf w base rb T ks) (hn : 2 ^ 60 < n) (hN : ks.length ≤ 2 ^ 30) : ∀ (f i j : Nat) (w' : World), i + f = 15 → f < j → Kp w w' →
    Rt (butterylaw9_SkipPlays.l3 n j (some ⟨b, 0, none⟩) (some ⟨rb, 0, none⟩) ((i : Int) - 1) w') fun r => Kp w r.w ∧ r.ex = .exit 6 ∧ r.vals = [pt b, pt rb] := by
  intro f
  induction f with
  | zero =>
    intro i j w' hi hj hk
    obtain ⟨j, rfl⟩ : ∃ j', j = j' + 1 := ⟨j - 1, by omega⟩
    rw [butterylaw9_SkipPlays.l3_succ]
    exact Rt.cDF (by omega) (Rt.some' ⟨hk, rfl, rfl⟩)
  | succ f ih =>
    intro i j w' hi hj hk
    obtain ⟨j, rfl⟩ : ∃ j', j = j' + 1 := ⟨j - 1, by omega⟩
    rw [butterylaw9_SkipPlays.l3_succ]
    have hll := level_le (ks := ks) ((i : Int) - 1)
    refine Rt.cDT (by omega) (Rt.cEv (Level_spec (hS.kp hk) hn hN) fun D d1 w1 h1 k1 => ?_)
    have hk1 := hk.tr k1
    refine Rt.cEv (RLevel_spec (hR.kp hk1) hS.ok hn hN) fun E d2 w2 h2 k2 => ?_
    have hk2 := hk1.tr k2
    refine Rt.cBt (SameEntries_spec (h1.kp k2) h2 (by omega) (by omega)) rfl fun w3 k3 => Rt.cF rfl ?_
    rw [i64_in _ (by omega), show ((i : Int) - 1 + 1) = ((i + 1 : Nat) : Int) - 1 by omega]
    exact ih (i + 1) j w3 (by omega) (by omega) (hk2.tr k3)
theorem SkipPlays_spec {zs : List Key} (hx : Ev enEl w A l c xs) (hv : Bv .i64 w B m d hs) (hz : Ev kyEl w C p q zs) (hl : l < 2 ^ 63) (hn : 2 ^ 63 < n) : Rt (butterylaw9_SkipPlays n [.slice A l c, .slice B m d, .slice C p q] w) (RB True w) := by
  have hn60 : 2 ^ 60 < n := by omega
  have hxl := hx.len
  rw [butterylaw9_SkipPlays_eq]
  refine Rt.fin (Rt.cBt (alive_spec hn60) trivial fun w1 k1 => ?_)
  refine Rt.cBo (Big_spec (hx.kp k1) hl (by omega)) fun b w2 hb k2 => Rt.cF rfl (Rt.cB (fun _ => Rt.endB (by simp) (k1.tr k2)) fun hb0 => ?_)
  have hnb : ¬ bigE xs := fun h => by rw [hb.2 h] at hb0; cases hb0
  have hl60 : l ≤ 60 := by unfold bigE at hnb; omega
  have hL : ∀ y ∈ xs, y.key.length ≤ 300 ∧ y.val.length ≤ 300 := fun y hy => by
    constructor
    · apply Classical.byContradiction; intro h; exact hnb (.inl ⟨y, hy, .inl (by omega)⟩)
    · apply Classical.byContradiction; intro h; exact hnb (.inl ⟨y, hy, .inr (by omega)⟩)
  have k12 := k1.tr k2
  refine Rt.cD (fun _ => Rt.endB (by simp) k12) fun hlm => Rt.cD (fun _ => Rt.endB (by simp) k12) fun hp => ?_
  refine Rt.cNew (New_spec (base := w2.heap.size) (Nat.le_refl _) (by omega)) fun w3 bx S k3 h3 hS => ?_
  (repeat (first | (with_reducible (first | refine Rt.fin ?_ | refine Rt.tL ?_ | refine Rt.tI ?_ | refine Rt.tB ?_ | refine Rt.tS ?_ | refine Rt.tP ?_ | refine Rt.tD ?_ | refine Rt.tM ?_ | refine Rt.tC ?_ | refine Rt.tN ?_ | refine Rt.tA ?_ | refine Rt.tG ?_ | refine Rt.tF ?_ | refine Rt.os ?_ | refine Rt.clS ?_ | refine Rt.jmN ?_ | refine Rt.jbN ?_ | refine Rt.jbE ?_)) | ((with_reducible (first | apply Rt.ld0 | apply Rt.ld1 | apply Rt.ld2 | apply Rt.ld3 | apply Rt.ld4 | apply Rt.ld5)); first | assumption | exact Lc.kp (by assumption) (by assumption)) | ((with_reducible apply Rt.ol); first | assumption | exact cell_kp (by assumption) (by assumption)) | ((with_reducible apply Rt.ckR); focus ((repeat (first | (with_reducible (first | refine Rt.fin ?_ | refine Rt.tL ?_ | refine Rt.tI ?_ | refine Rt.tB ?_ | refine Rt.tS ?_ | refine Rt.tP ?_ | refine Rt.tD ?_ | refine Rt.tM ?_ | refine Rt.tC ?_ | refine Rt.tN ?_ | refine Rt.tA ?_ | refine Rt.tG ?_ | refine Rt.tF ?_ | refine Rt.os ?_ | refine Rt.clS ?_ | refine Rt.jmN ?_ | refine Rt.jbN ?_ | refine Rt.jbE ?_)) | ((with_reducible (first | apply Rt.ld0 | apply Rt.ld1 | apply Rt.ld2 | apply Rt.ld3 | apply Rt.ld4 | apply Rt.ld5)); first | assumption | exact Lc.kp (by assumption) (by assumption)) | ((with_reducible apply Rt.ol); first | assumption | exact cell_kp (by assumption) (by assumption)))); exact Rt.some' rfl))))
  have z3 := k3.size
  refine Rt.cNew (New_spec (base := w2.heap.size) z3 (by omega)) fun w4 bo T k4 h4 hT => ?_
  (repeat (first | (with_reducible (first | refine Rt.fin ?_ | refine Rt.tL ?_ | refine Rt.tI ?_ | refine Rt.tB ?_ | refine Rt.tS ?_ | refine Rt.tP ?_ | refine Rt.tD ?_ | refine Rt.tM ?_ | refine Rt.tC ?_ | refine Rt.tN ?_ | refine Rt.tA ?_ | refine Rt.tG ?_ | refine Rt.tF ?_ | refine Rt.os ?_ | refine Rt.clS ?_ | refine Rt.jmN ?_ | refine Rt.jbN ?_ | refine Rt.jbE ?_)) | ((with_reducible (first | apply Rt.ld0 | apply Rt.ld1 | apply Rt.ld2 | apply Rt.ld3 | apply Rt.ld4 | apply Rt.ld5)); first | assumption | exact Lc.kp (by assumption) (by assumption)) | ((with_reducible apply Rt.ol); first | assumption | exact cell_kp (by assumption) (by assumption)) | ((with_reducible apply Rt.ckR); focus ((repeat (first | (with_reducible (first | refine Rt.fin ?_ | refine Rt.tL ?_ | refine Rt.tI ?_ | refine Rt.tB ?_ | refine Rt.tS ?_ | refine Rt.tP ?_ | refine Rt.tD ?_ | refine Rt.tM ?_ | refine Rt.tC ?_ | refine Rt.tN ?_ | refine Rt.tA ?_ | refine Rt.tG ?_ | refine Rt.tF ?_ | refine Rt.os ?_ | refine Rt.clS ?_ | refine Rt.jmN ?_ | refine Rt.jbN ?_ | refine Rt.jbE ?_)) | ((with_reducible (first | apply Rt.ld0 | apply Rt.ld1 | apply Rt.ld2 | apply Rt.ld3 | apply Rt.ld4 | apply Rt.ld5)); first | assumption | exact Lc.kp (by assumption) (by assumption)) | ((with_reducible apply Rt.ol); first | assumption | exact cell_kp (by assumption) (by assumption)))); exact Rt.some' rfl))))
  have z4 := k4.size
  obtain ⟨_, e, w5, br, U, rfl, k5, h5, hU⟩ := NewList_spec (base := w2.heap.size) (n := n) (w := w4) (by omega)
  refine Rt.cl e ?_
  (repeat (first | (with_reducible (first | refine Rt.fin ?_ | refine Rt.tL ?_ | refine Rt.tI ?_ | refine Rt.tB ?_ | refine Rt.tS ?_ | refine Rt.tP ?_ | refine Rt.tD ?_ | refine Rt.tM ?_ | refine Rt.tC ?_ | refine Rt.tN ?_ | refine Rt.tA ?_ | refine Rt.tG ?_ | refine Rt.tF ?_ | refine Rt.os ?_ | refine Rt.clS ?_ | refine Rt.jmN ?_ | refine Rt.jbN ?_ | refine Rt.jbE ?_)) | ((with_reducible (first | apply Rt.ld0 | apply Rt.ld1 | apply Rt.ld2 | apply Rt.ld3 | apply Rt.ld4 | apply Rt.ld5)); first | assumption | exact Lc.kp (by assumption) (by assumption)) | ((with_reducible apply Rt.ol); first | assumption | exact cell_kp (by assumption) (by assumption)) | ((with_reducible apply Rt.ckR); focus ((repeat (first | (with_reducible (first | refine Rt.fin ?_ | refine Rt.tL ?_ | refine Rt.tI ?_ | refine Rt.tB ?_ | refine Rt.tS ?_ | refine Rt.tP ?_ | refine Rt.tD ?_ | refine Rt.tM ?_ | refine Rt.tC ?_ | refine Rt.tN ?_ | refine Rt.tA ?_ | refine Rt.tG ?_ | refine Rt.tF ?_ | refine Rt.os ?_ | refine Rt.clS ?_ | refine Rt.jmN ?_ | refine Rt.jbN ?_ | refine Rt.jbE ?_)) | ((with_reducible (first | apply Rt.ld0 | apply Rt.ld1 | apply Rt.ld2 | apply Rt.ld3 | apply Rt.ld4 | apply Rt.ld5)); first | assumption | exact Lc.kp (by assumption) (by assumption)) | ((with_reducible apply Rt.ol); first | assumption | exact cell_kp (by assumption) (by assumption)))); exact Rt.some' rfl))))
  have z5 := k5.size
  have hx2 := hx.kp k12
  refine Rt.jb (Rt.mono (Plays_l0 (n := n) (C := C) (p := p) (q := q) hx2 (hv.kp k12) (by omega) hl60 hL hn60 l 0 n S T U [] w5 (by omega) (by omega) ((k3.tr k4).tr k5) (fun z hz => ?_) (fun z hs ht => ?_) (fun z hs hu => ?_) (fun z ht hu => ?_) ((h3.kp k4).kp k5) (h4.kp k5) (Nat.le_refl _) h5) ?_)
  · rcases hz with h | h | h
    · exact hS z h
    · have := hT z h; omega
    · have := hU z h; omega
  · have := (h3.lt hs).2; have := hT z ht; omega
  · have := (h3.lt hs).2; have := hU z hu; omega
  · have := (h4.lt ht).2; have := hU z hu; omega
  rintro ⟨ex, vs, w6⟩ ⟨e1, e2, k6, S6, U6, h6, g6⟩
  dsimp only at e1 e2 k6 h6 g6
  subst e1 e2
  refine .inl ⟨.inr rfl, ?_⟩
  (repeat (first | (with_reducible (first | refine Rt.fin ?_ | refine Rt.tL ?_ | refine Rt.tI ?_ | refine Rt.tB ?_ | refine Rt.tS ?_ | refine Rt.tP ?_ | refine Rt.tD ?_ | refine Rt.tM ?_ | refine Rt.tC ?_ | refine Rt.tN ?_ | refine Rt.tA ?_ | refine Rt.tG ?_ | refine Rt.tF ?_ | refine Rt.os ?_ | refine Rt.clS ?_ | refine Rt.jmN ?_ | refine Rt.jbN ?_ | refine Rt.jbE ?_)) | ((with_reducible (first | apply Rt.ld0 | apply Rt.ld1 | apply Rt.ld2 | apply Rt.ld3 | apply Rt.ld4 | apply Rt.ld5)); first | assumption | exact Lc.kp (by assumption) (by assumption)) | ((with_reducible apply Rt.ol); first | assumption | exact cell_kp (by assumption) (by assumption)) | ((with_reducible apply Rt.ckR); focus ((repeat (first | (with_reducible (first | refine Rt.fin ?_ | refine Rt.tL ?_ | refine Rt.tI ?_ | refine Rt.tB ?_ | refine Rt.tS ?_ | refine Rt.tP ?_ | refine Rt.tD ?_ | refine Rt.tM ?_ | refine Rt.tC ?_ | refine Rt.tN ?_ | refine Rt.tA ?_ | refine Rt.tG ?_ | refine Rt.tF ?_ | refine Rt.os ?_ | refine Rt.clS ?_ | refine Rt.jmN ?_ | refine Rt.jbN ?_ | refine Rt.jbE ?_)) | ((with_reducible (first | apply Rt.ld0 | apply Rt.ld1 | apply Rt.ld2 | apply Rt.ld3 | apply Rt.ld4 | apply Rt.ld5)); first | assumption | exact Lc.kp (by assumption) (by assumption)) | ((with_reducible apply Rt.ol); first | assumption | exact cell_kp (by assumption) (by assumption)))); exact Rt.some' rfl))))
  have hal := accA_len (xs := xs) (hs := hs) l
  have k06 := k12.tr k6
  refine Rt.jb (Rt.mono (Plays_l2 (n := n) h6 g6 (hz.kp k06) (by omega) hn60 (by omega) p 0 n w6 (by omega) (by omega) (Kp.rfl' _)) ?_)
  rintro ⟨ex, vs, w7⟩ ⟨k7, ⟨e1, e2⟩ | ⟨e1, e2⟩⟩
  rotate_left
  · dsimp only at e1 e2 k7
    subst e1 e2
    exact .inr ⟨rfl, rfl, true, w7, rfl, by simp, k06.tr k7⟩
  dsimp only at e1 e2 k7
  subst e1 e2
  refine .inl ⟨.inr rfl, ?_⟩
  (repeat (first | (with_reducible (first | refine Rt.fin ?_ | refine Rt.tL ?_ | refine Rt.tI ?_ | refine Rt.tB ?_ | refine Rt.tS ?_ | refine Rt.tP ?_ | refine Rt.tD ?_ | refine Rt.tM ?_ | refine Rt.tC ?_ | refine Rt.tN ?_ | refine Rt.tA ?_ | refine Rt.tG ?_ | refine Rt.tF ?_ | refine Rt.os ?_ | refine Rt.clS ?_ | refine Rt.jmN ?_ | refine Rt.jbN ?_ | refine Rt.jbE ?_)) | ((with_reducible (first | apply Rt.ld0 | apply Rt.ld1 | apply Rt.ld2 | apply Rt.ld3 | apply Rt.ld4 | apply Rt.ld5)); first | assumption | exact Lc.kp (by assumption) (by assumption)) | ((with_reducible apply Rt.ol); first | assumption | exact cell_kp (by assumption) (by assumption)) | ((with_reducible apply Rt.ckR); focus ((repeat (first | (with_reducible (first | refine Rt.fin ?_ | refine Rt.tL ?_ | refine Rt.tI ?_ | refine Rt.tB ?_ | refine Rt.tS ?_ | refine Rt.tP ?_ | refine Rt.tD ?_ | refine Rt.tM ?_ | refine Rt.tC ?_ | refine Rt.tN ?_ | refine Rt.tA ?_ | refine Rt.tG ?_ | refine Rt.tF ?_ | refine Rt.os ?_ | refine Rt.clS ?_ | refine Rt.jmN ?_ | refine Rt.jbN ?_ | refine Rt.jbE ?_)) | ((with_reducible (first | apply Rt.ld0 | apply Rt.ld1 | apply Rt.ld2 | apply Rt.ld3 | apply Rt.ld4 | apply Rt.ld5)); first | assumption | exact Lc.kp (by assumption) (by assumption)) | ((with_reducible apply Rt.ol); first | assumption | exact cell_kp (by assumption) (by assumption)))); exact Rt.some' rfl))))
  refine Rt.jb (Rt.mono (Plays_l3 (n := n) (h6.kp k7) (g6.kp k7) hn60 (by omega) 15 0 n w7 (by omega) (by omega) (Kp.rfl' _)) ?_)
  rintro ⟨ex, vs, w8⟩ ⟨k8, e1, e2⟩
  dsimp only at e1 e2 k8
  subst e1 e2
  refine .inl ⟨.inr rfl, ?_⟩
  (repeat (first | (with_reducible (first | refine Rt.fin ?_ | refine Rt.tL ?_ | refine Rt.tI ?_ | refine Rt.tB ?_ | refine Rt.tS ?_ | refine Rt.tP ?_ | refine Rt.tD ?_ | refine Rt.tM ?_ | refine Rt.tC ?_ | refine Rt.tN ?_ | refine Rt.tA ?_ | refine Rt.tG ?_ | refine Rt.tF ?_ | refine Rt.os ?_ | refine Rt.clS ?_ | refine Rt.jmN ?_ | refine Rt.jbN ?_ | refine Rt.jbE ?_)) | ((with_reducible (first | apply Rt.ld0 | apply Rt.ld1 | apply Rt.ld2 | apply Rt.ld3 | apply Rt.ld4 | apply Rt.ld5)); first | assumption | exact Lc.kp (by assumption) (by assumption)) | ((with_reducible apply Rt.ol); first | assumption | exact cell_kp (by assumption) (by assumption)) | ((with_reducible apply Rt.ckR); focus ((repeat (first | (with_reducible (first | refine Rt.fin ?_ | refine Rt.tL ?_ | refine Rt.tI ?_ | refine Rt.tB ?_ | refine Rt.tS ?_ | refine Rt.tP ?_ | refine Rt.tD ?_ | refine Rt.tM ?_ | refine Rt.tC ?_ | refine Rt.tN ?_ | refine Rt.tA ?_ | refine Rt.tG ?_ | refine Rt.tF ?_ | refine Rt.os ?_ | refine Rt.clS ?_ | refine Rt.jmN ?_ | refine Rt.jbN ?_ | refine Rt.jbE ?_)) | ((with_reducible (first | apply Rt.ld0 | apply Rt.ld1 | apply Rt.ld2 | apply Rt.ld3 | apply Rt.ld4 | apply Rt.ld5)); first | assumption | exact Lc.kp (by assumption) (by assumption)) | ((with_reducible apply Rt.ol); first | assumption | exact cell_kp (by assumption) (by assumption)))); exact Rt.some' rfl))))
  have k78 := k7.tr k8
  refine Rt.cEv (All_spec (h6.kp k78) hn60 (by omega)) fun D d9 w9 h9 k9 => ?_
  rw [level0 h6.ok] at h9 ⊢
  rw [List.length_map] at h9 ⊢
  refine Rt.cEv (RAll_spec ((g6.kp k78).kp k9) h6.ok hn60 (by omega)) fun E d10 w10 h10 k10 => ?_
  rw [List.length_map] at h10 ⊢
  refine Rt.cBt (SameEntries_spec (h9.kp k10) h10 (by omega) (by omega)) rfl fun w11 k11 => ?_
  exact Rt.endB (by simp) ((((k06.tr k78).tr k9).tr k10).tr k11)
theorem ky_open {H : Type} {enc : TypeId × Value → H} {W : World} {base : Nat} {spare : Nat → Bool} {held : Bool} (n : Nat) (cs : List Value) (y : DataW H × List MemPlace) (h : DataW.trod enc Try.prog W base spare held n 32 cs = some y) : ∃ x, kyEl.rd W cs x := by
  obtain ⟨A, l, c, s, k, x, e, hv⟩ := key_rd n cs y h
  exact ⟨x, A, l, c, s, k, e, hv⟩
end
end Go.Proofs.Ytoilmnplocfipaa.Sk
