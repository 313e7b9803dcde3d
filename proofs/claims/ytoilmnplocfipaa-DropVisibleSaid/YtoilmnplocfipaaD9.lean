/- Drop: Keep of the document's own text, whole; that both say the same. -/
import Derived.Test.YtoilmnplocfipaaD8
namespace Go.Proofs.Ytoilmnplocfipaa.Dr
open Go Big Go.RowKit Go.IntWalk Ik
set_option linter.unusedVariables false
set_option linter.unusedSimpArgs false
section
variable {α : Type} {Q : α → Prop} {n base : Nat} {w w0 w' : World} {A B C D E : Option Addr} {l c m d a1 a2 b1 b2 e c5 : Nat} {s k s' k' : Int} {x y : En} {xs ys zs : List En} {ss : List Int} {v : Value}
theorem RKeep_l0 (hx : Ev enEl w0 A l c xs) (hs : Bv .u64 w0 B m d ss) (hpos : ∀ t ∈ ss, 0 ≤ t) (hm : m < 2 ^ 62) (hmn : m < n) (hl : l ≤ 2 ^ 30) (hn2 : 2 ^ 50 < n) (hL : ∀ z ∈ xs, z.key.length ≤ 2 ^ 38 ∧ z.val.length ≤ 2 ^ 38) {last : Bool} : ∀ (f i j : Nat) (ys : List En) (D : Option Addr) (c8 : Nat) (w' : World), l ≤ i + f → i ≤ l → f < j → Kp w0 w' → ys.length + (l - i) ≤ 2 ^ 33 →
    OwnE enEl 34 w' w0.heap.size (.slice D ys.length c8) ys →
    Rt (butteryref9_Keep.l0 n j A l c B m d last D ys.length c8 (i : Int) w') fun r => r.ex = .exit 0 ∧ ∃ D c8, r.vals = [.slice D (ys ++ keepP ss last (xs.drop i)).length c8] ∧ OwnE enEl 34 r.w w0.heap.size (.slice D (ys ++ keepP ss last (xs.drop i)).length c8) (ys ++ keepP ss last (xs.drop i)) ∧ Kp w0 r.w := by
  obtain ⟨t, z, hT⟩ := slE
  have hxl := hx.len
  intro f
  induction f with
  | zero =>
    intro i j ys D c8 w' hi hil hj hk hps ho
    obtain ⟨j, rfl⟩ : ∃ j', j = j' + 1 := ⟨j - 1, by omega⟩
    rw [butteryref9_Keep.l0_succ, List.drop_of_length_le (by omega), keepP_nil, List.append_nil]
    exact Rt.cDF (by omega) (Rt.some' ⟨rfl, D, c8, rfl, ho, hk⟩)
  | succ f ih =>
    intro i j ys D c8 w' hi hil hj hk hps ho
    obtain ⟨j, rfl⟩ : ∃ j', j = j' + 1 := ⟨j - 1, by omega⟩
    rw [butteryref9_Keep.l0_succ]
    by_cases hlt : i < l
    · have hne : xs.drop i ≠ [] := by intro h; have := congrArg List.length h; rw [List.length_drop] at this; simp at this; omega
      have hg1 := grp_pos hne
      have hg2 := grp_le (xs.drop i)
      rw [List.length_drop] at hg2
      have hg2 : i + grp (xs.drop i) ≤ l := by omega
      refine Rt.cDT (by omega) (Rt.jb (Rt.mono (RKeep_l1 (n := n) (last := last) (i := i) (hx.kp hk) hl hlt (grp (xs.drop i)) 0 n w' (by omega) (by omega) (Kp.rfl' _)) ?_))
      rintro ⟨ex, vs, w1⟩ ⟨h1, h2, k1, _⟩
      dsimp only at h1 h2 k1
      subst h1 h2
      refine .inl ⟨.inr rfl, ?_⟩
      (repeat (first | (with_reducible (first | refine Rt.fin ?_ | refine Rt.tL ?_ | refine Rt.tI ?_ | refine Rt.tB ?_ | refine Rt.tS ?_ | refine Rt.tP ?_ | refine Rt.tD ?_ | refine Rt.tM ?_ | refine Rt.tC ?_ | refine Rt.tN ?_ | refine Rt.tA ?_ | refine Rt.tG ?_ | refine Rt.tF ?_ | refine Rt.os ?_ | refine Rt.clS ?_ | refine Rt.jmN ?_ | refine Rt.jbN ?_ | refine Rt.jbE ?_)) | ((with_reducible (first | apply Rt.ld0 | apply Rt.ld1 | apply Rt.ld2 | apply Rt.ld3 | apply Rt.ld4 | apply Rt.ld5)); first | assumption | exact Lc.kp (by assumption) (by assumption)) | ((with_reducible apply Rt.ol); first | assumption | exact cell_kp (by assumption) (by assumption)) | ((with_reducible apply Rt.ckR); focus ((repeat (first | (with_reducible (first | refine Rt.fin ?_ | refine Rt.tL ?_ | refine Rt.tI ?_ | refine Rt.tB ?_ | refine Rt.tS ?_ | refine Rt.tP ?_ | refine Rt.tD ?_ | refine Rt.tM ?_ | refine Rt.tC ?_ | refine Rt.tN ?_ | refine Rt.tA ?_ | refine Rt.tG ?_ | refine Rt.tF ?_ | refine Rt.os ?_ | refine Rt.clS ?_ | refine Rt.jmN ?_ | refine Rt.jbN ?_ | refine Rt.jbE ?_)) | ((with_reducible (first | apply Rt.ld0 | apply Rt.ld1 | apply Rt.ld2 | apply Rt.ld3 | apply Rt.ld4 | apply Rt.ld5)); first | assumption | exact Lc.kp (by assumption) (by assumption)) | ((with_reducible apply Rt.ol); first | assumption | exact cell_kp (by assumption) (by assumption)))); exact Rt.some' rfl))))
      have k01 := hk.tr k1
      have ho1 := ho.kp k1
      refine Rt.jb (Rt.mono (RKeep_l2 (S := On (.slice D ys.length c8)) (w := w1) (n := n) (last := last) (i := i) (fun jj hj => (ho1.lt jj hj).2) k01.size hx hs hm hmn hl hlt hL (grp (xs.drop i)) 0 n none 0 w1 (by omega) (by omega) k01 (Kp.rfl' _) (by simpa [stay] using OwnE.nil w1 w1.heap.size)) ?_)
      rintro ⟨ex, vs, w2⟩ ⟨h1, C, c9, h2, o2, k2, k12⟩
      dsimp only at h1 h2 k2 o2 k12
      subst h1 h2
      refine .inl ⟨.inr rfl, ?_⟩
      (repeat (first | (with_reducible (first | refine Rt.fin ?_ | refine Rt.tL ?_ | refine Rt.tI ?_ | refine Rt.tB ?_ | refine Rt.tS ?_ | refine Rt.tP ?_ | refine Rt.tD ?_ | refine Rt.tM ?_ | refine Rt.tC ?_ | refine Rt.tN ?_ | refine Rt.tA ?_ | refine Rt.tG ?_ | refine Rt.tF ?_ | refine Rt.os ?_ | refine Rt.clS ?_ | refine Rt.jmN ?_ | refine Rt.jbN ?_ | refine Rt.jbE ?_)) | ((with_reducible (first | apply Rt.ld0 | apply Rt.ld1 | apply Rt.ld2 | apply Rt.ld3 | apply Rt.ld4 | apply Rt.ld5)); first | assumption | exact Lc.kp (by assumption) (by assumption)) | ((with_reducible apply Rt.ol); first | assumption | exact cell_kp (by assumption) (by assumption)) | ((with_reducible apply Rt.ckR); focus ((repeat (first | (with_reducible (first | refine Rt.fin ?_ | refine Rt.tL ?_ | refine Rt.tI ?_ | refine Rt.tB ?_ | refine Rt.tS ?_ | refine Rt.tP ?_ | refine Rt.tD ?_ | refine Rt.tM ?_ | refine Rt.tC ?_ | refine Rt.tN ?_ | refine Rt.tA ?_ | refine Rt.tG ?_ | refine Rt.tF ?_ | refine Rt.os ?_ | refine Rt.clS ?_ | refine Rt.jmN ?_ | refine Rt.jbN ?_ | refine Rt.jbE ?_)) | ((with_reducible (first | apply Rt.ld0 | apply Rt.ld1 | apply Rt.ld2 | apply Rt.ld3 | apply Rt.ld4 | apply Rt.ld5)); first | assumption | exact Lc.kp (by assumption) (by assumption)) | ((with_reducible apply Rt.ol); first | assumption | exact cell_kp (by assumption) (by assumption)))); exact Rt.some' rfl))))
      have hsl := stay_len ss ((xs.drop i).take (grp (xs.drop i)))
      rw [List.length_take] at hsl
      have hsl : (stay ss ((xs.drop i).take (grp (xs.drop i)))).length ≤ l := by omega
      refine Rt.jb (Rt.mono (RKeep_l3 (n := n) (last := last) (hs.kp k2) hpos hm hmn _ n _ C c9 w2 rfl (by omega) (by omega) (Kp.rfl' _) o2.ev) ?_)
      rintro ⟨ex, vs, w3⟩ ⟨h1, C', c10, h2, h3, k3⟩
      dsimp only at h1 h2 h3 k3
      subst h1 h2
      refine .inl ⟨.inr rfl, ?_⟩
      (repeat (first | (with_reducible (first | refine Rt.fin ?_ | refine Rt.tL ?_ | refine Rt.tI ?_ | refine Rt.tB ?_ | refine Rt.tS ?_ | refine Rt.tP ?_ | refine Rt.tD ?_ | refine Rt.tM ?_ | refine Rt.tC ?_ | refine Rt.tN ?_ | refine Rt.tA ?_ | refine Rt.tG ?_ | refine Rt.tF ?_ | refine Rt.os ?_ | refine Rt.clS ?_ | refine Rt.jmN ?_ | refine Rt.jbN ?_ | refine Rt.jbE ?_)) | ((with_reducible (first | apply Rt.ld0 | apply Rt.ld1 | apply Rt.ld2 | apply Rt.ld3 | apply Rt.ld4 | apply Rt.ld5)); first | assumption | exact Lc.kp (by assumption) (by assumption)) | ((with_reducible apply Rt.ol); first | assumption | exact cell_kp (by assumption) (by assumption)) | ((with_reducible apply Rt.ckR); focus ((repeat (first | (with_reducible (first | refine Rt.fin ?_ | refine Rt.tL ?_ | refine Rt.tI ?_ | refine Rt.tB ?_ | refine Rt.tS ?_ | refine Rt.tP ?_ | refine Rt.tD ?_ | refine Rt.tM ?_ | refine Rt.tC ?_ | refine Rt.tN ?_ | refine Rt.tA ?_ | refine Rt.tG ?_ | refine Rt.tF ?_ | refine Rt.os ?_ | refine Rt.clS ?_ | refine Rt.jmN ?_ | refine Rt.jbN ?_ | refine Rt.jbE ?_)) | ((with_reducible (first | apply Rt.ld0 | apply Rt.ld1 | apply Rt.ld2 | apply Rt.ld3 | apply Rt.ld4 | apply Rt.ld5)); first | assumption | exact Lc.kp (by assumption) (by assumption)) | ((with_reducible apply Rt.ol); first | assumption | exact cell_kp (by assumption) (by assumption)))); exact Rt.some' rfl))))
      have ho3 := (ho1.kp k12).kp k3
      have hkl := kept_len (ss := ss) (last := last) (l := (xs.drop i).take (grp (xs.drop i)))
      rw [List.length_take] at hkl
      have hkl : (kept ss last ((xs.drop i).take (grp (xs.drop i)))).length ≤ grp (xs.drop i) := by omega
      have e1 : trim ss last (stay ss ((xs.drop i).take (grp (xs.drop i)))) = kept ss last ((xs.drop i).take (grp (xs.drop i))) := rfl
      rw [e1] at h3 ⊢
      have k03 := k2.tr k3
      refine Rt.appT rfl hT ho3 h3 (by omega) k03.size fun A7 c11 w4 o4 g4 => ?_
      (repeat (first | (with_reducible (first | refine Rt.fin ?_ | refine Rt.tL ?_ | refine Rt.tI ?_ | refine Rt.tB ?_ | refine Rt.tS ?_ | refine Rt.tP ?_ | refine Rt.tD ?_ | refine Rt.tM ?_ | refine Rt.tC ?_ | refine Rt.tN ?_ | refine Rt.tA ?_ | refine Rt.tG ?_ | refine Rt.tF ?_ | refine Rt.os ?_ | refine Rt.clS ?_ | refine Rt.jmN ?_ | refine Rt.jbN ?_ | refine Rt.jbE ?_)) | ((with_reducible (first | apply Rt.ld0 | apply Rt.ld1 | apply Rt.ld2 | apply Rt.ld3 | apply Rt.ld4 | apply Rt.ld5)); first | assumption | exact Lc.kp (by assumption) (by assumption)) | ((with_reducible apply Rt.ol); first | assumption | exact cell_kp (by assumption) (by assumption)) | ((with_reducible apply Rt.ckR); focus ((repeat (first | (with_reducible (first | refine Rt.fin ?_ | refine Rt.tL ?_ | refine Rt.tI ?_ | refine Rt.tB ?_ | refine Rt.tS ?_ | refine Rt.tP ?_ | refine Rt.tD ?_ | refine Rt.tM ?_ | refine Rt.tC ?_ | refine Rt.tN ?_ | refine Rt.tA ?_ | refine Rt.tG ?_ | refine Rt.tF ?_ | refine Rt.os ?_ | refine Rt.clS ?_ | refine Rt.jmN ?_ | refine Rt.jbN ?_ | refine Rt.jbE ?_)) | ((with_reducible (first | apply Rt.ld0 | apply Rt.ld1 | apply Rt.ld2 | apply Rt.ld3 | apply Rt.ld4 | apply Rt.ld5)); first | assumption | exact Lc.kp (by assumption) (by assumption)) | ((with_reducible apply Rt.ol); first | assumption | exact cell_kp (by assumption) (by assumption)))); exact Rt.some' rfl))))
      rw [keepP_cons hne, ← List.append_assoc, List.drop_drop]
      rw [show ys.length + (kept ss last ((xs.drop i).take (grp (xs.drop i)))).length = (ys ++ kept ss last ((xs.drop i).take (grp (xs.drop i)))).length from List.length_append.symm] at o4 ⊢
      exact ih (i + grp (xs.drop i)) j _ A7 c11 w4 (by omega) (by omega) (by omega) (k03.tx g4 fun jj hj => (ho3.lt jj hj).1) (by rw [List.length_append]; omega) o4
    · rw [List.drop_of_length_le (by omega), keepP_nil, List.append_nil]
      exact Rt.cDF (by omega) (Rt.some' ⟨rfl, D, c8, rfl, ho, hk⟩)
theorem RKeep_spec (hx : Ev enEl w A l c xs) (hs : Bv .u64 w B m d ss) (hL : ∀ z ∈ xs, z.key.length ≤ 2 ^ 38 ∧ z.val.length ≤ 2 ^ 38) (hl : l ≤ 2 ^ 30) (hm : m < 2 ^ 62) (hn : m < n) (hn2 : 2 ^ 50 < n) {last : Bool} :
    Rt (butteryref9_Keep n [.slice A l c, .slice B m d, .bool last] w) (REe (keepR ss last xs) (keepE xs) w) := by
  have hxl := hx.len
  rw [butteryref9_Keep_eq]
  refine Rt.fin (Rt.cBo (RRising_spec hx (by omega) (by omega) (fun z hz => by have := hL z hz; omega) fun z hz => by have := hL z hz; omega) fun b w1 hb k1 => ?_)
  unfold keepR keepE
  cases b with
  | false =>
    have : ¬ risingE xs := fun h => by simpa using hb.2 h
    rw [if_neg this, if_neg this]
    exact Rt.cT rfl (Rt.some' ⟨rfl, none, 0, w1, rfl, ⟨SlE.nil .., fun _ => ⟨rfl, rfl⟩, Nat.le_refl _, Nat.zero_le _⟩, k1⟩)
  | true =>
    rw [if_pos (hb.1 rfl), if_pos (hb.1 rfl)]
    refine Rt.cF rfl (Rt.jb (Rt.mono (RKeep_l0 (n := n) (last := last) (w0 := w1) (hx.kp k1) (hs.kp k1) (fun t ht => (u64b (hs.rng t ht)).1) hm hn hl hn2 hL l 0 n [] none 0 w1 (by omega) (by omega) (by omega) (Kp.rfl' _) (by simp; omega) (OwnE.nil _ _)) ?_))
    rintro ⟨ex, vs, w2⟩ ⟨h1, D, c8, h2, h3, k2⟩
    dsimp only at h1 h2 h3 k2
    subst h1 h2
    refine .inl ⟨.inr rfl, ?_⟩
    (repeat (first | (with_reducible (first | refine Rt.fin ?_ | refine Rt.tL ?_ | refine Rt.tI ?_ | refine Rt.tB ?_ | refine Rt.tS ?_ | refine Rt.tP ?_ | refine Rt.tD ?_ | refine Rt.tM ?_ | refine Rt.tC ?_ | refine Rt.tN ?_ | refine Rt.tA ?_ | refine Rt.tG ?_ | refine Rt.tF ?_ | refine Rt.os ?_ | refine Rt.clS ?_ | refine Rt.jmN ?_ | refine Rt.jbN ?_ | refine Rt.jbE ?_)) | ((with_reducible (first | apply Rt.ld0 | apply Rt.ld1 | apply Rt.ld2 | apply Rt.ld3 | apply Rt.ld4 | apply Rt.ld5)); first | assumption | exact Lc.kp (by assumption) (by assumption)) | ((with_reducible apply Rt.ol); first | assumption | exact cell_kp (by assumption) (by assumption)) | ((with_reducible apply Rt.ckR); focus ((repeat (first | (with_reducible (first | refine Rt.fin ?_ | refine Rt.tL ?_ | refine Rt.tI ?_ | refine Rt.tB ?_ | refine Rt.tS ?_ | refine Rt.tP ?_ | refine Rt.tD ?_ | refine Rt.tM ?_ | refine Rt.tC ?_ | refine Rt.tN ?_ | refine Rt.tA ?_ | refine Rt.tG ?_ | refine Rt.tF ?_ | refine Rt.os ?_ | refine Rt.clS ?_ | refine Rt.jmN ?_ | refine Rt.jbN ?_ | refine Rt.jbE ?_)) | ((with_reducible (first | apply Rt.ld0 | apply Rt.ld1 | apply Rt.ld2 | apply Rt.ld3 | apply Rt.ld4 | apply Rt.ld5)); first | assumption | exact Lc.kp (by assumption) (by assumption)) | ((with_reducible apply Rt.ol); first | assumption | exact cell_kp (by assumption) (by assumption)))); exact Rt.some' rfl))))
    exact Rt.some' ⟨rfl, D, c8, w2, rfl, h3.ev, k1.tr k2⟩
theorem slU : ∃ i, SlT Try.prog 37 30 .u64 i := slT (by kernel_rfl)
theorem DropKeeps_spec {q : Int} (hx : Ev enEl w A l c xs) (hs : Bv .u64 w B m d ss) (hl : l < 2 ^ 63) (hn : 2 ^ 63 < n) {last : Bool} : Rt (butterylaw21_DropKeeps n [.slice A l c, .slice B m d, .bool last, .int .u64 q] w) (RB True w) := by
  obtain ⟨t, hT⟩ := slU
  have hxl := hx.len
  rw [butterylaw21_DropKeeps_eq]
  refine Rt.fin (Rt.cBt (alive_spec (by omega)) trivial fun w1 k1 => Rt.cBo (Big_spec (hx.kp k1) hl (by omega)) fun b w2 hb k2 => Rt.cF rfl ?_)
  have k2 := k1.tr k2
  cases b with
  | true => exact Rt.cT rfl (Rt.endB (by simp) k2)
  | false =>
    have hnb : ¬ bigE xs := fun h => by simpa using hb.2 h
    have hL : ∀ z ∈ xs, z.key.length ≤ 2 ^ 38 ∧ z.val.length ≤ 2 ^ 38 := fun z hz => by
      have : ¬ (z.key.length > 300 ∨ z.val.length > 300) := fun h => hnb (.inl ⟨z, hz, h⟩)
      omega
    have hln : xs.length ≤ 60 := by
      have : ¬ (xs.length > 60) := fun h => hnb (.inr h)
      omega
    refine Rt.cF rfl (Rt.cD (fun h => Rt.endB (by simp) k2) fun hm => ?_)
    refine Rt.app0 hT (hs.kp k2).sl hs.nil (by omega) fun E c3 w3 o3 k3 => ?_
    (repeat (first | (with_reducible (first | refine Rt.fin ?_ | refine Rt.tL ?_ | refine Rt.tI ?_ | refine Rt.tB ?_ | refine Rt.tS ?_ | refine Rt.tP ?_ | refine Rt.tD ?_ | refine Rt.tM ?_ | refine Rt.tC ?_ | refine Rt.tN ?_ | refine Rt.tA ?_ | refine Rt.tG ?_ | refine Rt.tF ?_ | refine Rt.os ?_ | refine Rt.clS ?_ | refine Rt.jmN ?_ | refine Rt.jbN ?_ | refine Rt.jbE ?_)) | ((with_reducible (first | apply Rt.ld0 | apply Rt.ld1 | apply Rt.ld2 | apply Rt.ld3 | apply Rt.ld4 | apply Rt.ld5)); first | assumption | exact Lc.kp (by assumption) (by assumption)) | ((with_reducible apply Rt.ol); first | assumption | exact cell_kp (by assumption) (by assumption)) | ((with_reducible apply Rt.ckR); focus ((repeat (first | (with_reducible (first | refine Rt.fin ?_ | refine Rt.tL ?_ | refine Rt.tI ?_ | refine Rt.tB ?_ | refine Rt.tS ?_ | refine Rt.tP ?_ | refine Rt.tD ?_ | refine Rt.tM ?_ | refine Rt.tC ?_ | refine Rt.tN ?_ | refine Rt.tA ?_ | refine Rt.tG ?_ | refine Rt.tF ?_ | refine Rt.os ?_ | refine Rt.clS ?_ | refine Rt.jmN ?_ | refine Rt.jbN ?_ | refine Rt.jbE ?_)) | ((with_reducible (first | apply Rt.ld0 | apply Rt.ld1 | apply Rt.ld2 | apply Rt.ld3 | apply Rt.ld4 | apply Rt.ld5)); first | assumption | exact Lc.kp (by assumption) (by assumption)) | ((with_reducible apply Rt.ol); first | assumption | exact cell_kp (by assumption) (by assumption)))); exact Rt.some' rfl))))
    have k3 := k2.tr k3
    refine Rt.cEe (Keep_spec (hx.kp k3) (o3.bv hs.rng) hL (by omega) (by omega) (by omega) (by omega)) fun D e w4 h4 k4 => ?_
    have k4 := k3.tr k4
    refine Rt.cEe (RKeep_spec (hx.kp k4) (hs.kp k4) hL (by omega) (by omega) (by omega) (by omega)) fun D' e' w5 h5 k5 => ?_
    have hlen : (keepR ss last xs).length ≤ 60 := by
      unfold keepR
      split
      · have := (keepP_sub (ss := ss) (last := last) xs).length_le; omega
      · exact Nat.zero_le _
    refine Rt.cBt (SameEntries_spec (h4.kp k5) h5 (by omega) (by omega)) rfl fun w6 k6 => Rt.cT rfl ?_
    refine Rt.cI (num_run n _ _) fun w7 k7 => Rt.cT (by simp) ?_
    have k7 := (((k4.tr k5).tr k6).tr k7)
    refine Rt.cPv (Visible_spec (hx.kp k7) hL (by omega) (by omega)) fun F f w8 h8 k8 => ?_
    have k8' := k7.tr k8
    refine Rt.cPv (RVisible_spec (hx.kp k8') hL (by omega) (by omega)) fun F' f' w9 h9 k9 => ?_
    have hvl : ∀ q (l : List En), (visP q l).length ≤ l.length := fun q => grp_rec (by simp [visP_nil]) fun x l ih => by
      rw [visP_cons', List.length_append, List.length_cons]
      have h1 := seenAt_len (q := q) (g := x :: same x l)
      have h2 := rest_len x l
      omega
    have hvr : (visR q xs).length ≤ 60 := by
      unfold visR
      split
      · have := hvl q xs; omega
      · exact Nat.zero_le _
    refine Rt.cBt (SamePairs_spec (h8.kp k9) h9 (by omega) (by omega)) rfl fun w10 k10 => ?_
    exact Rt.endB (by simp) ((k8'.tr k9).tr k10)
end
end Go.Proofs.Ytoilmnplocfipaa.Dr
