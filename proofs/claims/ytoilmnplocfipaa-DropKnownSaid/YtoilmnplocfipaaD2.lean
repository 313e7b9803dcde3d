/- Drop: Keep of the program. -/
import Derived.Test.YtoilmnplocfipaaD1
namespace Go.Proofs.Ytoilmnplocfipaa.Dr
open Go Big Go.RowKit Go.IntWalk Ik
set_option linter.unusedVariables false
set_option linter.unusedSimpArgs false
section
variable {α : Type} {Q : α → Prop} {n base : Nat} {w w0 w' : World} {A B C D : Option Addr} {l c m d a1 a2 b1 b2 : Nat} {s k s' k' : Int} {x y : En} {xs ys zs : List En} {ss : List Int} {v : Value}
theorem Keep_l1 {A0 B0 : Option Addr} {l0 c0 m0 d0 : Nat} {last : Bool} {r9 : Int} (hL : ∀ z ∈ zs, z.key.length ≤ 2 ^ 38 ∧ z.val.length ≤ 2 ^ 38) (hb0 : w0.heap.size ≤ base) (hsum : ys.length + l ≤ 2 ^ 35) (hzl : zs.length = l) :
    ∀ (q i j : Nat) (D : Option Addr) (c8 : Nat) (w' : World), i + q = l → q < j → Kp w0 w' → Stb (On (.slice D (ys ++ zs.take i).length c8)) (fun w => Ev enEl w A l c zs) w' → base ≤ w'.heap.size →
    OwnE enEl 34 w' base (.slice D (ys ++ zs.take i).length c8) (ys ++ zs.take i) →
    Rt (drop_Keep.l1 n j A0 l0 c0 B0 m0 d0 last D (ys ++ zs.take i).length c8 r9 A l c (l : Int) (i : Int) w') fun r => r.ex = .exit 2 ∧ ∃ D c8, r.vals = [.slice A0 l0 c0, .slice B0 m0 d0, .bool last, .slice D (ys ++ zs).length c8, .int .i64 r9] ∧
      OwnE enEl 34 r.w base (.slice D (ys ++ zs).length c8) (ys ++ zs) ∧ Kp w0 r.w ∧ base ≤ r.w.heap.size := by
  obtain ⟨t, z, hT⟩ := slE
  intro q
  induction q with
  | zero =>
    intro i j D c8 w' hi hj hk hev hsz ho
    obtain ⟨j, rfl⟩ : ∃ j', j = j' + 1 := ⟨j - 1, by omega⟩
    rw [List.take_of_length_le (by omega)] at ho ⊢
    rw [drop_Keep.l1_succ]
    exact Rt.cDF (by omega) (Rt.some' ⟨rfl, D, c8, rfl, ho, hk, hsz⟩)
  | succ q ih =>
    intro i j D c8 w' hi hj hk hev hsz ho
    obtain ⟨j, rfl⟩ : ∃ j', j = j' + 1 := ⟨j - 1, by omega⟩
    rw [drop_Keep.l1_succ]
    refine Rt.cDT (by omega) (Rt.ixN hev.out.sl (by omega) (by omega) fun x a B1 b1 b2 s k C1 c1 c2 ex hv g0 g1 g2 g3 => ?_)
    have ex : zs[i]? = some x := by simpa using ex
    have hmem := hL x (List.mem_of_getElem? ex)
    have hv1 := hv.key.len
    have hv2 := hv.val.len
    (repeat (first | (with_reducible (first | refine Rt.fin ?_ | refine Rt.tL ?_ | refine Rt.tI ?_ | refine Rt.tB ?_ | refine Rt.tS ?_ | refine Rt.tP ?_ | refine Rt.tD ?_ | refine Rt.tM ?_ | refine Rt.tC ?_ | refine Rt.tN ?_ | refine Rt.tA ?_ | refine Rt.tG ?_ | refine Rt.tF ?_ | refine Rt.os ?_ | refine Rt.clS ?_ | refine Rt.jmN ?_ | refine Rt.jbN ?_ | refine Rt.jbE ?_)) | ((with_reducible (first | apply Rt.ld0 | apply Rt.ld1 | apply Rt.ld2 | apply Rt.ld3 | apply Rt.ld4 | apply Rt.ld5)); first | assumption | exact Lc.kp (by assumption) (by assumption)) | ((with_reducible apply Rt.ol); first | assumption | exact cell_kp (by assumption) (by assumption)) | ((with_reducible apply Rt.ckR); focus ((repeat (first | (with_reducible (first | refine Rt.fin ?_ | refine Rt.tL ?_ | refine Rt.tI ?_ | refine Rt.tB ?_ | refine Rt.tS ?_ | refine Rt.tP ?_ | refine Rt.tD ?_ | refine Rt.tM ?_ | refine Rt.tC ?_ | refine Rt.tN ?_ | refine Rt.tA ?_ | refine Rt.tG ?_ | refine Rt.tF ?_ | refine Rt.os ?_ | refine Rt.clS ?_ | refine Rt.jmN ?_ | refine Rt.jbN ?_ | refine Rt.jbE ?_)) | ((with_reducible (first | apply Rt.ld0 | apply Rt.ld1 | apply Rt.ld2 | apply Rt.ld3 | apply Rt.ld4 | apply Rt.ld5)); first | assumption | exact Lc.kp (by assumption) (by assumption)) | ((with_reducible apply Rt.ol); first | assumption | exact cell_kp (by assumption) (by assumption)))); exact Rt.some' rfl))))
    refine Rt.al4 fun w1 l1 k1 s1 => ?_
    (repeat (first | (with_reducible (first | refine Rt.fin ?_ | refine Rt.tL ?_ | refine Rt.tI ?_ | refine Rt.tB ?_ | refine Rt.tS ?_ | refine Rt.tP ?_ | refine Rt.tD ?_ | refine Rt.tM ?_ | refine Rt.tC ?_ | refine Rt.tN ?_ | refine Rt.tA ?_ | refine Rt.tG ?_ | refine Rt.tF ?_ | refine Rt.os ?_ | refine Rt.clS ?_ | refine Rt.jmN ?_ | refine Rt.jbN ?_ | refine Rt.jbE ?_)) | ((with_reducible (first | apply Rt.ld0 | apply Rt.ld1 | apply Rt.ld2 | apply Rt.ld3 | apply Rt.ld4 | apply Rt.ld5)); first | assumption | exact Lc.kp (by assumption) (by assumption)) | ((with_reducible apply Rt.ol); first | assumption | exact cell_kp (by assumption) (by assumption)) | ((with_reducible apply Rt.ckR); focus ((repeat (first | (with_reducible (first | refine Rt.fin ?_ | refine Rt.tL ?_ | refine Rt.tI ?_ | refine Rt.tB ?_ | refine Rt.tS ?_ | refine Rt.tP ?_ | refine Rt.tD ?_ | refine Rt.tM ?_ | refine Rt.tC ?_ | refine Rt.tN ?_ | refine Rt.tA ?_ | refine Rt.tG ?_ | refine Rt.tF ?_ | refine Rt.os ?_ | refine Rt.clS ?_ | refine Rt.jmN ?_ | refine Rt.jbN ?_ | refine Rt.jbE ?_)) | ((with_reducible (first | apply Rt.ld0 | apply Rt.ld1 | apply Rt.ld2 | apply Rt.ld3 | apply Rt.ld4 | apply Rt.ld5)); first | assumption | exact Lc.kp (by assumption) (by assumption)) | ((with_reducible apply Rt.ol); first | assumption | exact cell_kp (by assumption) (by assumption)))); exact Rt.some' rfl))))
    refine Rt.cO (Clone_spec ((hv.key.kp k1).kp (Kp.rfl' w1).dr) (by omega)) fun B3 d3 w3 o3 k3 => ?_
    have l3 := (l1.kp (Kp.rfl' w1).dr).kp k3
    have k13 : Kp w' w3 := (k1.dr).tr k3
    (repeat (first | (with_reducible (first | refine Rt.fin ?_ | refine Rt.tL ?_ | refine Rt.tI ?_ | refine Rt.tB ?_ | refine Rt.tS ?_ | refine Rt.tP ?_ | refine Rt.tD ?_ | refine Rt.tM ?_ | refine Rt.tC ?_ | refine Rt.tN ?_ | refine Rt.tA ?_ | refine Rt.tG ?_ | refine Rt.tF ?_ | refine Rt.os ?_ | refine Rt.clS ?_ | refine Rt.jmN ?_ | refine Rt.jbN ?_ | refine Rt.jbE ?_)) | ((with_reducible (first | apply Rt.ld0 | apply Rt.ld1 | apply Rt.ld2 | apply Rt.ld3 | apply Rt.ld4 | apply Rt.ld5)); first | assumption | exact Lc.kp (by assumption) (by assumption)) | ((with_reducible apply Rt.ol); first | assumption | exact cell_kp (by assumption) (by assumption)) | ((with_reducible apply Rt.ckR); focus ((repeat (first | (with_reducible (first | refine Rt.fin ?_ | refine Rt.tL ?_ | refine Rt.tI ?_ | refine Rt.tB ?_ | refine Rt.tS ?_ | refine Rt.tP ?_ | refine Rt.tD ?_ | refine Rt.tM ?_ | refine Rt.tC ?_ | refine Rt.tN ?_ | refine Rt.tA ?_ | refine Rt.tG ?_ | refine Rt.tF ?_ | refine Rt.os ?_ | refine Rt.clS ?_ | refine Rt.jmN ?_ | refine Rt.jbN ?_ | refine Rt.jbE ?_)) | ((with_reducible (first | apply Rt.ld0 | apply Rt.ld1 | apply Rt.ld2 | apply Rt.ld3 | apply Rt.ld4 | apply Rt.ld5)); first | assumption | exact Lc.kp (by assumption) (by assumption)) | ((with_reducible apply Rt.ol); first | assumption | exact cell_kp (by assumption) (by assumption)))); exact Rt.some' rfl))))
    refine Rt.cO (Clone_spec (hv.val.kp k13) (by omega)) fun B4 d4 w4 o4 k4 => ?_
    have k14 := k13.tr k4
    refine Rt.st0 (l3.kp k4) fun w5 l5 g5 => Rt.st3 l5 fun w6 l6 g6 => ?_
    have g := g5.tr g6
    have k16 : Kp w' w6 := k14.tx g fun j hj => by omega
    (repeat (first | (with_reducible (first | refine Rt.fin ?_ | refine Rt.tL ?_ | refine Rt.tI ?_ | refine Rt.tB ?_ | refine Rt.tS ?_ | refine Rt.tP ?_ | refine Rt.tD ?_ | refine Rt.tM ?_ | refine Rt.tC ?_ | refine Rt.tN ?_ | refine Rt.tA ?_ | refine Rt.tG ?_ | refine Rt.tF ?_ | refine Rt.os ?_ | refine Rt.clS ?_ | refine Rt.jmN ?_ | refine Rt.jbN ?_ | refine Rt.jbE ?_)) | ((with_reducible (first | apply Rt.ld0 | apply Rt.ld1 | apply Rt.ld2 | apply Rt.ld3 | apply Rt.ld4 | apply Rt.ld5)); first | assumption | exact Lc.kp (by assumption) (by assumption)) | ((with_reducible apply Rt.ol); first | assumption | exact cell_kp (by assumption) (by assumption)) | ((with_reducible apply Rt.ckR); focus ((repeat (first | (with_reducible (first | refine Rt.fin ?_ | refine Rt.tL ?_ | refine Rt.tI ?_ | refine Rt.tB ?_ | refine Rt.tS ?_ | refine Rt.tP ?_ | refine Rt.tD ?_ | refine Rt.tM ?_ | refine Rt.tC ?_ | refine Rt.tN ?_ | refine Rt.tA ?_ | refine Rt.tG ?_ | refine Rt.tF ?_ | refine Rt.os ?_ | refine Rt.clS ?_ | refine Rt.jmN ?_ | refine Rt.jbN ?_ | refine Rt.jbE ?_)) | ((with_reducible (first | apply Rt.ld0 | apply Rt.ld1 | apply Rt.ld2 | apply Rt.ld3 | apply Rt.ld4 | apply Rt.ld5)); first | assumption | exact Lc.kp (by assumption) (by assumption)) | ((with_reducible apply Rt.ol); first | assumption | exact cell_kp (by assumption) (by assumption)))); exact Rt.some' rfl))))
    have hd1 : w1.drew.heap.size = w1.heap.size := rfl
    have o3 := (o3.kp k4).gx g fun j hj e => by have := (o3.lt j hj).1; omega
    have o4 := o4.gx g fun j hj e => by have := (o4.lt j hj).1; have := k3.size; have := l1.lt; omega
    have ho6 := ho.kp k16
    refine Rt.app1f rfl hT ho6 rfl (en_stb2 (x := x) o3 o4 hv.key.rng hv.val.rng hv.seq hv.kind hv.rs hv.rk fun j hj => ?_) (by rw [List.length_append, List.length_take]; omega) (by have := k16.size; omega) fun A7 c9 w7 o7 g7 f7 s7 => ?_
    · have := (ho.lt j hj).2
      have := k3.size
      omega
    (repeat (first | (with_reducible (first | refine Rt.fin ?_ | refine Rt.tL ?_ | refine Rt.tI ?_ | refine Rt.tB ?_ | refine Rt.tS ?_ | refine Rt.tP ?_ | refine Rt.tD ?_ | refine Rt.tM ?_ | refine Rt.tC ?_ | refine Rt.tN ?_ | refine Rt.tA ?_ | refine Rt.tG ?_ | refine Rt.tF ?_ | refine Rt.os ?_ | refine Rt.clS ?_ | refine Rt.jmN ?_ | refine Rt.jbN ?_ | refine Rt.jbE ?_)) | ((with_reducible (first | apply Rt.ld0 | apply Rt.ld1 | apply Rt.ld2 | apply Rt.ld3 | apply Rt.ld4 | apply Rt.ld5)); first | assumption | exact Lc.kp (by assumption) (by assumption)) | ((with_reducible apply Rt.ol); first | assumption | exact cell_kp (by assumption) (by assumption)) | ((with_reducible apply Rt.ckR); focus ((repeat (first | (with_reducible (first | refine Rt.fin ?_ | refine Rt.tL ?_ | refine Rt.tI ?_ | refine Rt.tB ?_ | refine Rt.tS ?_ | refine Rt.tP ?_ | refine Rt.tD ?_ | refine Rt.tM ?_ | refine Rt.tC ?_ | refine Rt.tN ?_ | refine Rt.tA ?_ | refine Rt.tG ?_ | refine Rt.tF ?_ | refine Rt.os ?_ | refine Rt.clS ?_ | refine Rt.jmN ?_ | refine Rt.jbN ?_ | refine Rt.jbE ?_)) | ((with_reducible (first | apply Rt.ld0 | apply Rt.ld1 | apply Rt.ld2 | apply Rt.ld3 | apply Rt.ld4 | apply Rt.ld5)); first | assumption | exact Lc.kp (by assumption) (by assumption)) | ((with_reducible apply Rt.ol); first | assumption | exact cell_kp (by assumption) (by assumption)))); exact Rt.some' rfl))))
    rw [i64_in _ (by omega), show ((i : Int) + 1) = ((i + 1 : Nat) : Int) by omega]
    have e1 : ys ++ zs.take (i + 1) = ys ++ zs.take i ++ [x] := by rw [take_succ_at ex, List.append_assoc]
    have e2 : (ys ++ zs.take i).length + 1 = (ys ++ zs.take (i + 1)).length := by rw [e1, List.length_append (bs := [x])]; rfl
    rw [e2, ← e1] at o7
    rw [e2]
    refine ih (i + 1) j A7 c9 w7 (by omega) (by omega) ((hk.tr k16).tx g7 fun j hj => Nat.le_trans hb0 (ho.lt j hj).1) (fun w8 g8 => ?_) (by have := k16.size; omega) o7
    refine hev w8 (((k16.gx (S := On (.slice D (ys ++ zs.take i).length c8))).tr g7).tr' g8 fun j hj h => ?_)
    rw [← e2] at h
    exact (f7 j h).resolve_right (by have := k16.size; omega)
theorem Keep_l0 (hs : Bv .u64 w0 B m d ss) (hm : m < 2 ^ 62) (hn : m < n) (hn2 : 2 ^ 50 < n) {last : Bool} : ∀ (q j : Nat) (xs ys : List En) (A : Option Addr) (l c : Nat) (D : Option Addr) (c8 : Nat) (w' : World), xs.length ≤ q → q < j → Kp w0 w' → (∀ z ∈ xs, z.key.length ≤ 2 ^ 38 ∧ z.val.length ≤ 2 ^ 38) → ys.length + xs.length ≤ 2 ^ 34 →
    Ev enEl w0 A l c xs → OwnE enEl 34 w' w0.heap.size (.slice D ys.length c8) ys →
    Rt (drop_Keep.l0 n j A l c B m d last D ys.length c8 w') fun r => r.ex = .exit 0 ∧ ∃ D c8, r.vals = [.slice D (ys ++ keepP ss last xs).length c8] ∧ OwnE enEl 34 r.w w0.heap.size (.slice D (ys ++ keepP ss last xs).length c8) (ys ++ keepP ss last xs) ∧ Kp w0 r.w := by
  intro q
  induction q with
  | zero =>
    intro j xs ys A l c D c8 w' hq hj hk hL h34 hx ho
    obtain ⟨j, rfl⟩ : ∃ j', j = j' + 1 := ⟨j - 1, by omega⟩
    obtain rfl : xs = [] := List.length_eq_zero_iff.1 (by omega)
    have := hx.len
    rw [drop_Keep.l0_succ, keepP_nil, List.append_nil]
    exact Rt.cDF (by simp at this; omega) (Rt.some' ⟨rfl, D, c8, rfl, ho, hk⟩)
  | succ q ih =>
    intro j xs ys A l c D c8 w' hq hj hk hL h34 hx ho
    obtain ⟨j, rfl⟩ : ∃ j', j = j' + 1 := ⟨j - 1, by omega⟩
    have hxl := hx.len
    rw [drop_Keep.l0_succ]
    by_cases hne : xs = []
    · subst hne
      rw [keepP_nil, List.append_nil]
      exact Rt.cDF (by simp at hxl; omega) (Rt.some' ⟨rfl, D, c8, rfl, ho, hk⟩)
    · have hpos : 0 < xs.length := List.length_pos_iff.2 hne
      have hg1 := grp_pos hne
      have hg2 := grp_le xs
      refine Rt.cDT (by omega) (Rt.cI (user_spec (hx.kp hk) hne (by omega) (by omega)) fun w1 k1 => ?_)
      have k01 := hk.tr k1
      refine Rt.cutES (S := fun _ => False) (w := w0) (fun w2 hg => hx.kp (hg.kp fun k h => h.elim)) rfl (by omega) (by omega) (by omega) fun A2 hx2 => ?_
      have hx2 := hx2.out
      have ei : ((grp xs : Nat) : Int).toNat = grp xs := by omega
      rw [ei] at hx2 ⊢
      have e0 : List.drop (Int.toNat 0) (List.take (grp xs) xs) = xs.take (grp xs) := rfl
      rw [e0] at hx2
      have hl2 := hx2.len
      have ho1 := ho.kp k1
      refine Rt.call (kept_spec (S := On (.slice D ys.length c8)) (n := n) (last := last) k01 (fun k hk' => ho1.lt k hk') hx2 (by intro h; rw [h] at hl2; simp at hl2; omega) hs (by simp at hl2 ⊢; omega) hm hn hn2) fun vs w3 h3 => ?_
      obtain ⟨B3, d3, w3', e3, hz, k3⟩ := h3
      injection e3 with e3 e4
      subst e3 e4
      (repeat (first | (with_reducible (first | refine Rt.fin ?_ | refine Rt.tL ?_ | refine Rt.tI ?_ | refine Rt.tB ?_ | refine Rt.tS ?_ | refine Rt.tP ?_ | refine Rt.tD ?_ | refine Rt.tM ?_ | refine Rt.tC ?_ | refine Rt.tN ?_ | refine Rt.tA ?_ | refine Rt.tG ?_ | refine Rt.tF ?_ | refine Rt.os ?_ | refine Rt.clS ?_ | refine Rt.jmN ?_ | refine Rt.jbN ?_ | refine Rt.jbE ?_)) | ((with_reducible (first | apply Rt.ld0 | apply Rt.ld1 | apply Rt.ld2 | apply Rt.ld3 | apply Rt.ld4 | apply Rt.ld5)); first | assumption | exact Lc.kp (by assumption) (by assumption)) | ((with_reducible apply Rt.ol); first | assumption | exact cell_kp (by assumption) (by assumption)) | ((with_reducible apply Rt.ckR); focus ((repeat (first | (with_reducible (first | refine Rt.fin ?_ | refine Rt.tL ?_ | refine Rt.tI ?_ | refine Rt.tB ?_ | refine Rt.tS ?_ | refine Rt.tP ?_ | refine Rt.tD ?_ | refine Rt.tM ?_ | refine Rt.tC ?_ | refine Rt.tN ?_ | refine Rt.tA ?_ | refine Rt.tG ?_ | refine Rt.tF ?_ | refine Rt.os ?_ | refine Rt.clS ?_ | refine Rt.jmN ?_ | refine Rt.jbN ?_ | refine Rt.jbE ?_)) | ((with_reducible (first | apply Rt.ld0 | apply Rt.ld1 | apply Rt.ld2 | apply Rt.ld3 | apply Rt.ld4 | apply Rt.ld5)); first | assumption | exact Lc.kp (by assumption) (by assumption)) | ((with_reducible apply Rt.ol); first | assumption | exact cell_kp (by assumption) (by assumption)))); exact Rt.some' rfl))))
      have hkl := kept_len (ss := ss) (last := last) (l := xs.take (grp xs))
      have hkl2 : (xs.take (grp xs)).length = grp xs := by rw [List.length_take]; omega
      have k03 := k01.tr k3
      have hmemk : ∀ z ∈ kept ss last (xs.take (grp xs)), z ∈ xs := fun z hz => List.mem_of_mem_take (kept_sub.subset hz)
      have h1 := Keep_l1 (n := n) (ys := ys) (zs := kept ss last (xs.take (grp xs))) (w0 := w0) (base := w0.heap.size) (A := B3) (c := d3) (A0 := A) (l0 := l) (c0 := c) (B0 := B) (m0 := m) (d0 := d) (last := last) (r9 := (grp xs : Int)) (fun z hz => hL z (hmemk z hz)) (Nat.le_refl _) (by omega) rfl _ 0 n D c8 w3 (Nat.zero_add _) (by omega) k03 (by simpa using hz) k03.size (by simpa using ho1.kp k3)
      rw [List.take_zero, List.append_nil] at h1
      refine Rt.jb (Rt.mono h1 ?_)
      rintro ⟨ex, vs, w4⟩ ⟨h1, D', c9, h2, h3, k4, _⟩
      dsimp only at h1 h2 h3 k4
      subst h1 h2
      refine .inl ⟨.inr rfl, ?_⟩
      (repeat (first | (with_reducible (first | refine Rt.fin ?_ | refine Rt.tL ?_ | refine Rt.tI ?_ | refine Rt.tB ?_ | refine Rt.tS ?_ | refine Rt.tP ?_ | refine Rt.tD ?_ | refine Rt.tM ?_ | refine Rt.tC ?_ | refine Rt.tN ?_ | refine Rt.tA ?_ | refine Rt.tG ?_ | refine Rt.tF ?_ | refine Rt.os ?_ | refine Rt.clS ?_ | refine Rt.jmN ?_ | refine Rt.jbN ?_ | refine Rt.jbE ?_)) | ((with_reducible (first | apply Rt.ld0 | apply Rt.ld1 | apply Rt.ld2 | apply Rt.ld3 | apply Rt.ld4 | apply Rt.ld5)); first | assumption | exact Lc.kp (by assumption) (by assumption)) | ((with_reducible apply Rt.ol); first | assumption | exact cell_kp (by assumption) (by assumption)) | ((with_reducible apply Rt.ckR); focus ((repeat (first | (with_reducible (first | refine Rt.fin ?_ | refine Rt.tL ?_ | refine Rt.tI ?_ | refine Rt.tB ?_ | refine Rt.tS ?_ | refine Rt.tP ?_ | refine Rt.tD ?_ | refine Rt.tM ?_ | refine Rt.tC ?_ | refine Rt.tN ?_ | refine Rt.tA ?_ | refine Rt.tG ?_ | refine Rt.tF ?_ | refine Rt.os ?_ | refine Rt.clS ?_ | refine Rt.jmN ?_ | refine Rt.jbN ?_ | refine Rt.jbE ?_)) | ((with_reducible (first | apply Rt.ld0 | apply Rt.ld1 | apply Rt.ld2 | apply Rt.ld3 | apply Rt.ld4 | apply Rt.ld5)); first | assumption | exact Lc.kp (by assumption) (by assumption)) | ((with_reducible apply Rt.ol); first | assumption | exact cell_kp (by assumption) (by assumption)))); exact Rt.some' rfl))))
      refine Rt.cutES (S := fun _ => False) (w := w0) (fun w2 hg => hx.kp (hg.kp fun k h => h.elim)) rfl (by omega) (by omega) (by omega) fun A5 hx5 => ?_
      have hx5 := hx5.out
      rw [Int.toNat_natCast, Int.toNat_natCast] at hx5 ⊢
      rw [List.take_of_length_le (by omega)] at hx5
      rw [keepP_cons hne, ← List.append_assoc]
      refine ih j (xs.drop (grp xs)) _ A5 _ _ D' c9 w4 (by rw [List.length_drop]; omega) (by omega) k4 (fun z hz => hL z (List.mem_of_mem_drop hz)) (by rw [List.length_append, List.length_drop]; omega) hx5 h3
open Classical in
/-- What Keep answers. -/
noncomputable def keepR (ss : List Int) (last : Bool) (l : List En) : List En := if risingE l then keepP ss last l else []
open Classical in
noncomputable def keepE (l : List En) : Int := if risingE l then 0 else 10
theorem Keep_spec (hx : Ev enEl w A l c xs) (hs : Bv .u64 w B m d ss) (hL : ∀ z ∈ xs, z.key.length ≤ 2 ^ 38 ∧ z.val.length ≤ 2 ^ 38) (hl : l ≤ 2 ^ 34) (hm : m < 2 ^ 62) (hn : m < n) (hn2 : 2 ^ 50 < n) {last : Bool} :
    Rt (drop_Keep n [.slice A l c, .slice B m d, .bool last] w) (REe (keepR ss last xs) (keepE xs) w) := by
  have hxl := hx.len
  rw [drop_Keep_eq]
  refine Rt.fin (Rt.cBo (Rising_spec hx (by omega) (by omega)) fun b w1 hb k1 => ?_)
  unfold keepR keepE
  cases b with
  | false =>
    have : ¬ risingE xs := fun h => by simpa using hb.2 h
    rw [if_neg this, if_neg this]
    exact Rt.cT rfl (Rt.some' ⟨rfl, none, 0, w1, rfl, ⟨SlE.nil .., fun _ => ⟨rfl, rfl⟩, Nat.le_refl _, Nat.zero_le _⟩, k1⟩)
  | true =>
    rw [if_pos (hb.1 rfl), if_pos (hb.1 rfl)]
    refine Rt.cF rfl (Rt.jb (Rt.mono (Keep_l0 (n := n) (last := last) (w0 := w) (xs := xs) (ys := []) hs hm hn hn2 xs.length n A l c none 0 w1 (Nat.le_refl _) (by omega) k1 hL (by simp; omega) hx (OwnE.nil _ _)) ?_))
    rintro ⟨ex, vs, w2⟩ ⟨h1, D, c8, h2, h3, k2⟩
    dsimp only at h1 h2 h3 k2
    subst h1 h2
    refine .inl ⟨.inr rfl, ?_⟩
    (repeat (first | (with_reducible (first | refine Rt.fin ?_ | refine Rt.tL ?_ | refine Rt.tI ?_ | refine Rt.tB ?_ | refine Rt.tS ?_ | refine Rt.tP ?_ | refine Rt.tD ?_ | refine Rt.tM ?_ | refine Rt.tC ?_ | refine Rt.tN ?_ | refine Rt.tA ?_ | refine Rt.tG ?_ | refine Rt.tF ?_ | refine Rt.os ?_ | refine Rt.clS ?_ | refine Rt.jmN ?_ | refine Rt.jbN ?_ | refine Rt.jbE ?_)) | ((with_reducible (first | apply Rt.ld0 | apply Rt.ld1 | apply Rt.ld2 | apply Rt.ld3 | apply Rt.ld4 | apply Rt.ld5)); first | assumption | exact Lc.kp (by assumption) (by assumption)) | ((with_reducible apply Rt.ol); first | assumption | exact cell_kp (by assumption) (by assumption)) | ((with_reducible apply Rt.ckR); focus ((repeat (first | (with_reducible (first | refine Rt.fin ?_ | refine Rt.tL ?_ | refine Rt.tI ?_ | refine Rt.tB ?_ | refine Rt.tS ?_ | refine Rt.tP ?_ | refine Rt.tD ?_ | refine Rt.tM ?_ | refine Rt.tC ?_ | refine Rt.tN ?_ | refine Rt.tA ?_ | refine Rt.tG ?_ | refine Rt.tF ?_ | refine Rt.os ?_ | refine Rt.clS ?_ | refine Rt.jmN ?_ | refine Rt.jbN ?_ | refine Rt.jbE ?_)) | ((with_reducible (first | apply Rt.ld0 | apply Rt.ld1 | apply Rt.ld2 | apply Rt.ld3 | apply Rt.ld4 | apply Rt.ld5)); first | assumption | exact Lc.kp (by assumption) (by assumption)) | ((with_reducible apply Rt.ol); first | assumption | exact cell_kp (by assumption) (by assumption)))); exact Rt.some' rfl))))
    exact Rt.some' ⟨rfl, D, c8, w2, rfl, h3.ev, k2⟩
end
end Go.Proofs.Ytoilmnplocfipaa.Dr
