/- SkipSorts: the walk. -/
import Derived.Test.YtoilmnplocfipaaS13
namespace Go.Proofs.Ytoilmnplocfipaa.Sk
open Go Big Go.RowKit Go.IntWalk Ik
set_option linter.unusedVariables false
set_option linter.unusedSimpArgs false
theorem eat_nil {a : List En} : eatE a [] = a := by cases a <;> rfl
section
variable {α : Type} {Q : α → Prop} {n base b bx by_ : Nat} {w w' w0 : World} {S T R : Nat → Prop} {A B : Option Addr} {c l m d : Nat} {ks : List (En × Nat)} {x : En} {xs ys : List En} {hs : List Int}
theorem within_l0 (hx : Ev enEl w A l c xs) (hy : Ev enEl w B m d ys) (hl : l < 2 ^ 62) (hm : m < 2 ^ 62) : ∀ (f i k j : Nat) (w' : World), i + f = m → f < j → k ≤ l → Kp w w' → eatE (xs.drop k) (ys.drop i) = [] →
    Rt (butterylaw9_within.l0 n j A l c B m d (k : Int) (i : Int) w') fun r => r.ex = .exit 0 ∧ r.vals = [.slice A l c, .int .i64 (l : Int)] ∧ Kp w r.w := by
  have hxl := hx.len
  have hyl := hy.len
  have stop : ∀ {k : Nat} {w' : World}, k = l → Kp w w' → Rt (some (⟨.exit 0, [.slice A l c, .int .i64 (k : Int)], w'⟩ : Res)) fun r => r.ex = .exit 0 ∧ r.vals = [.slice A l c, .int .i64 (l : Int)] ∧ Kp w r.w := fun e hk => by subst e; exact Rt.some' ⟨rfl, rfl, hk⟩
  intro f
  induction f with
  | zero =>
    intro i k j w' hi hj hkl hk he
    obtain ⟨j, rfl⟩ : ∃ j', j = j' + 1 := ⟨j - 1, by omega⟩
    rw [butterylaw9_within.l0_succ]
    rw [List.drop_eq_nil_iff.2 (show ys.length ≤ i by omega), eat_nil] at he
    have := List.drop_eq_nil_iff.1 he
    exact Rt.cDF (by omega) (stop (by omega) hk)
  | succ f ih =>
    intro i k j w' hi hj hkl hk he
    obtain ⟨j, rfl⟩ : ∃ j', j = j' + 1 := ⟨j - 1, by omega⟩
    rw [butterylaw9_within.l0_succ]
    refine Rt.cDT (by omega) (Rt.cD (fun hlt => ?_) fun hge => stop (by omega) hk)
    have hkd := hk.dr
    refine Rt.jb (i := 1) ?_
    refine Rt.ixN (hx.kp hkd).sl (by omega) (by omega) fun y a B1 b1 b2 s k' C c1 c2 ey hv g0 g1 g2 g3 => ?_
    (repeat (first | (with_reducible (first | refine Rt.fin ?_ | refine Rt.tL ?_ | refine Rt.tI ?_ | refine Rt.tB ?_ | refine Rt.tS ?_ | refine Rt.tP ?_ | refine Rt.tD ?_ | refine Rt.tM ?_ | refine Rt.tC ?_ | refine Rt.tN ?_ | refine Rt.tA ?_ | refine Rt.tG ?_ | refine Rt.tF ?_ | refine Rt.os ?_ | refine Rt.clS ?_ | refine Rt.jmN ?_ | refine Rt.jbN ?_ | refine Rt.jbE ?_)) | ((with_reducible (first | apply Rt.ld0 | apply Rt.ld1 | apply Rt.ld2 | apply Rt.ld3 | apply Rt.ld4 | apply Rt.ld5)); first | assumption | exact Lc.kp (by assumption) (by assumption)) | ((with_reducible apply Rt.ol); first | assumption | exact cell_kp (by assumption) (by assumption)) | ((with_reducible apply Rt.ckR); focus ((repeat (first | (with_reducible (first | refine Rt.fin ?_ | refine Rt.tL ?_ | refine Rt.tI ?_ | refine Rt.tB ?_ | refine Rt.tS ?_ | refine Rt.tP ?_ | refine Rt.tD ?_ | refine Rt.tM ?_ | refine Rt.tC ?_ | refine Rt.tN ?_ | refine Rt.tA ?_ | refine Rt.tG ?_ | refine Rt.tF ?_ | refine Rt.os ?_ | refine Rt.clS ?_ | refine Rt.jmN ?_ | refine Rt.jbN ?_ | refine Rt.jbE ?_)) | ((with_reducible (first | apply Rt.ld0 | apply Rt.ld1 | apply Rt.ld2 | apply Rt.ld3 | apply Rt.ld4 | apply Rt.ld5)); first | assumption | exact Lc.kp (by assumption) (by assumption)) | ((with_reducible apply Rt.ol); first | assumption | exact cell_kp (by assumption) (by assumption)))); exact Rt.some' rfl))))
    refine Rt.ixN (hy.kp hkd).sl (by omega) (by omega) fun z a' B1' b1' b2' s' k'' C' c1' c2' ez hv' g0' g1' g2' g3' => ?_
    (repeat (first | (with_reducible (first | refine Rt.fin ?_ | refine Rt.tL ?_ | refine Rt.tI ?_ | refine Rt.tB ?_ | refine Rt.tS ?_ | refine Rt.tP ?_ | refine Rt.tD ?_ | refine Rt.tM ?_ | refine Rt.tC ?_ | refine Rt.tN ?_ | refine Rt.tA ?_ | refine Rt.tG ?_ | refine Rt.tF ?_ | refine Rt.os ?_ | refine Rt.clS ?_ | refine Rt.jmN ?_ | refine Rt.jbN ?_ | refine Rt.jbE ?_)) | ((with_reducible (first | apply Rt.ld0 | apply Rt.ld1 | apply Rt.ld2 | apply Rt.ld3 | apply Rt.ld4 | apply Rt.ld5)); first | assumption | exact Lc.kp (by assumption) (by assumption)) | ((with_reducible apply Rt.ol); first | assumption | exact cell_kp (by assumption) (by assumption)) | ((with_reducible apply Rt.ckR); focus ((repeat (first | (with_reducible (first | refine Rt.fin ?_ | refine Rt.tL ?_ | refine Rt.tI ?_ | refine Rt.tB ?_ | refine Rt.tS ?_ | refine Rt.tP ?_ | refine Rt.tD ?_ | refine Rt.tM ?_ | refine Rt.tC ?_ | refine Rt.tN ?_ | refine Rt.tA ?_ | refine Rt.tG ?_ | refine Rt.tF ?_ | refine Rt.os ?_ | refine Rt.clS ?_ | refine Rt.jmN ?_ | refine Rt.jbN ?_ | refine Rt.jbE ?_)) | ((with_reducible (first | apply Rt.ld0 | apply Rt.ld1 | apply Rt.ld2 | apply Rt.ld3 | apply Rt.ld4 | apply Rt.ld5)); first | assumption | exact Lc.kp (by assumption) (by assumption)) | ((with_reducible apply Rt.ol); first | assumption | exact cell_kp (by assumption) (by assumption)))); exact Rt.some' rfl))))
    rw [Int.toNat_natCast] at ey ez
    have ex1 : xs.drop k = y :: xs.drop (k + 1) := by rw [List.drop_eq_getElem_cons (by omega : k < xs.length)]; rw [List.getElem?_eq_getElem (by omega)] at ey; injection ey with ey; rw [ey]
    have ey1 : ys.drop i = z :: ys.drop (i + 1) := by rw [List.drop_eq_getElem_cons (by omega : i < ys.length)]; rw [List.getElem?_eq_getElem (by omega)] at ez; injection ez with ez; rw [ez]
    rw [ex1, ey1] at he
    unfold eatE at he
    refine Rt.cBo (SameEntry_spec hv hv') fun b w1 hb k1 => ?_
    have hk1 := hkd.tr k1
    by_cases hyz : y = z
    · rw [if_pos hyz] at he
      refine Rt.cT (hb.2 hyz) (Rt.some' (.inl ⟨.inl rfl, ?_⟩))
      (repeat (first | (with_reducible (first | refine Rt.fin ?_ | refine Rt.tL ?_ | refine Rt.tI ?_ | refine Rt.tB ?_ | refine Rt.tS ?_ | refine Rt.tP ?_ | refine Rt.tD ?_ | refine Rt.tM ?_ | refine Rt.tC ?_ | refine Rt.tN ?_ | refine Rt.tA ?_ | refine Rt.tG ?_ | refine Rt.tF ?_ | refine Rt.os ?_ | refine Rt.clS ?_ | refine Rt.jmN ?_ | refine Rt.jbN ?_ | refine Rt.jbE ?_)) | ((with_reducible (first | apply Rt.ld0 | apply Rt.ld1 | apply Rt.ld2 | apply Rt.ld3 | apply Rt.ld4 | apply Rt.ld5)); first | assumption | exact Lc.kp (by assumption) (by assumption)) | ((with_reducible apply Rt.ol); first | assumption | exact cell_kp (by assumption) (by assumption)) | ((with_reducible apply Rt.ckR); focus ((repeat (first | (with_reducible (first | refine Rt.fin ?_ | refine Rt.tL ?_ | refine Rt.tI ?_ | refine Rt.tB ?_ | refine Rt.tS ?_ | refine Rt.tP ?_ | refine Rt.tD ?_ | refine Rt.tM ?_ | refine Rt.tC ?_ | refine Rt.tN ?_ | refine Rt.tA ?_ | refine Rt.tG ?_ | refine Rt.tF ?_ | refine Rt.os ?_ | refine Rt.clS ?_ | refine Rt.jmN ?_ | refine Rt.jbN ?_ | refine Rt.jbE ?_)) | ((with_reducible (first | apply Rt.ld0 | apply Rt.ld1 | apply Rt.ld2 | apply Rt.ld3 | apply Rt.ld4 | apply Rt.ld5)); first | assumption | exact Lc.kp (by assumption) (by assumption)) | ((with_reducible apply Rt.ol); first | assumption | exact cell_kp (by assumption) (by assumption)))); exact Rt.some' rfl))))
      rw [i64_in _ (by omega), i64_in _ (by omega), show ((i : Int) + 1) = ((i + 1 : Nat) : Int) by omega, show ((k : Int) + 1) = ((k + 1 : Nat) : Int) by omega]
      exact ih (i + 1) (k + 1) j w1 (by omega) (by omega) (by omega) hk1 he
    · rw [if_neg hyz] at he
      refine Rt.cF (by rw [Bool.eq_false_iff]; exact fun h => hyz (hb.1 h)) (Rt.some' (.inl ⟨.inl rfl, ?_⟩))
      (repeat (first | (with_reducible (first | refine Rt.fin ?_ | refine Rt.tL ?_ | refine Rt.tI ?_ | refine Rt.tB ?_ | refine Rt.tS ?_ | refine Rt.tP ?_ | refine Rt.tD ?_ | refine Rt.tM ?_ | refine Rt.tC ?_ | refine Rt.tN ?_ | refine Rt.tA ?_ | refine Rt.tG ?_ | refine Rt.tF ?_ | refine Rt.os ?_ | refine Rt.clS ?_ | refine Rt.jmN ?_ | refine Rt.jbN ?_ | refine Rt.jbE ?_)) | ((with_reducible (first | apply Rt.ld0 | apply Rt.ld1 | apply Rt.ld2 | apply Rt.ld3 | apply Rt.ld4 | apply Rt.ld5)); first | assumption | exact Lc.kp (by assumption) (by assumption)) | ((with_reducible apply Rt.ol); first | assumption | exact cell_kp (by assumption) (by assumption)) | ((with_reducible apply Rt.ckR); focus ((repeat (first | (with_reducible (first | refine Rt.fin ?_ | refine Rt.tL ?_ | refine Rt.tI ?_ | refine Rt.tB ?_ | refine Rt.tS ?_ | refine Rt.tP ?_ | refine Rt.tD ?_ | refine Rt.tM ?_ | refine Rt.tC ?_ | refine Rt.tN ?_ | refine Rt.tA ?_ | refine Rt.tG ?_ | refine Rt.tF ?_ | refine Rt.os ?_ | refine Rt.clS ?_ | refine Rt.jmN ?_ | refine Rt.jbN ?_ | refine Rt.jbE ?_)) | ((with_reducible (first | apply Rt.ld0 | apply Rt.ld1 | apply Rt.ld2 | apply Rt.ld3 | apply Rt.ld4 | apply Rt.ld5)); first | assumption | exact Lc.kp (by assumption) (by assumption)) | ((with_reducible apply Rt.ol); first | assumption | exact cell_kp (by assumption) (by assumption)))); exact Rt.some' rfl))))
      rw [i64_in _ (by omega), show ((i : Int) + 1) = ((i + 1 : Nat) : Int) by omega]
      exact ih (i + 1) k j w1 (by omega) (by omega) (by omega) hk1 (by rw [ex1]; exact he)
theorem within_spec (hx : Ev enEl w A l c xs) (hy : Ev enEl w B m d ys) (hl : l < 2 ^ 62) (hm : m < 2 ^ 62) (hn : m < n) (he : eatE xs ys = []) : Rt (butterylaw9_within n [.slice A l c, .slice B m d] w) (RB True w) := by
  rw [butterylaw9_within_eq]
  refine Rt.fin (Rt.jb (Rt.mono (within_l0 (n := n) hx hy hl hm m 0 0 n w (by omega) (by omega) (by omega) (Kp.rfl' _) he) ?_))
  rintro ⟨ex, vs, w1⟩ ⟨h1, h2, k1⟩
  dsimp only at h1 h2 k1
  subst h1 h2
  refine .inl ⟨.inr rfl, ?_⟩
  (repeat (first | (with_reducible (first | refine Rt.fin ?_ | refine Rt.tL ?_ | refine Rt.tI ?_ | refine Rt.tB ?_ | refine Rt.tS ?_ | refine Rt.tP ?_ | refine Rt.tD ?_ | refine Rt.tM ?_ | refine Rt.tC ?_ | refine Rt.tN ?_ | refine Rt.tA ?_ | refine Rt.tG ?_ | refine Rt.tF ?_ | refine Rt.os ?_ | refine Rt.clS ?_ | refine Rt.jmN ?_ | refine Rt.jbN ?_ | refine Rt.jbE ?_)) | ((with_reducible (first | apply Rt.ld0 | apply Rt.ld1 | apply Rt.ld2 | apply Rt.ld3 | apply Rt.ld4 | apply Rt.ld5)); first | assumption | exact Lc.kp (by assumption) (by assumption)) | ((with_reducible apply Rt.ol); first | assumption | exact cell_kp (by assumption) (by assumption)) | ((with_reducible apply Rt.ckR); focus ((repeat (first | (with_reducible (first | refine Rt.fin ?_ | refine Rt.tL ?_ | refine Rt.tI ?_ | refine Rt.tB ?_ | refine Rt.tS ?_ | refine Rt.tP ?_ | refine Rt.tD ?_ | refine Rt.tM ?_ | refine Rt.tC ?_ | refine Rt.tN ?_ | refine Rt.tA ?_ | refine Rt.tG ?_ | refine Rt.tF ?_ | refine Rt.os ?_ | refine Rt.clS ?_ | refine Rt.jmN ?_ | refine Rt.jbN ?_ | refine Rt.jbE ?_)) | ((with_reducible (first | apply Rt.ld0 | apply Rt.ld1 | apply Rt.ld2 | apply Rt.ld3 | apply Rt.ld4 | apply Rt.ld5)); first | assumption | exact Lc.kp (by assumption) (by assumption)) | ((with_reducible apply Rt.ol); first | assumption | exact cell_kp (by assumption) (by assumption)))); exact Rt.some' rfl))))
  exact Rt.endB (by simp) k1
theorem Sorts_l2 (h : SkA w base b S ks) (hN : ks.length ≤ 2 ^ 30) (hn : 2 ^ 60 < n) : ∀ (f i j : Nat) (w' : World), i + f = 12 → f < j → Kp w w' → Rt (butterylaw9_SkipSorts.l2 n j (some ⟨b, 0, none⟩) (i : Int) w') fun r => r.ex = .exit 4 ∧ r.vals = [] ∧ Kp w r.w := by
  intro f
  induction f with
  | zero =>
    intro i j w' hi hj hk
    obtain ⟨j, rfl⟩ : ∃ j', j = j' + 1 := ⟨j - 1, by omega⟩
    rw [butterylaw9_SkipSorts.l2_succ]
    exact Rt.cDF (by omega) (Rt.some' ⟨rfl, rfl, hk⟩)
  | succ f ih =>
    intro i j w' hi hj hk
    obtain ⟨j, rfl⟩ : ∃ j', j = j' + 1 := ⟨j - 1, by omega⟩
    rw [butterylaw9_SkipSorts.l2_succ, i64_in _ (by omega)]
    have hle : ∀ q, (levelA q ks).length ≤ ks.length := fun q => by
      unfold levelA
      split
      · rw [List.length_map]; exact List.length_filter_le _ _
      · exact Nat.zero_le _
    have hl1 := hle ((i : Int) + 1)
    have hl2 := hle (i : Int)
    refine Rt.cDT (by omega) (Rt.cEv (Level_spec (i := (i : Int) + 1) (h.kp hk) hn hN) fun D d1 w1 h1 k1 => ?_)
    have hk1 := hk.tr k1
    refine Rt.cEv (Level_spec (i := (i : Int)) (h.kp hk1) hn hN) fun E d2 w2 h2 k2 => ?_
    have hsub := level_sub ks (i : Int) (by omega) (by omega)
    have hsl := hsub.length_le
    have hk2 := hk1.tr k2
    refine Rt.cDF (by omega) (Rt.cBt (within_spec (h1.kp k2) h2 (by omega) (by omega) (by omega) (eat_sub hsub)) trivial fun w3 k3 => Rt.cF rfl ?_)
    rw [show ((i : Int) + 1) = ((i + 1 : Nat) : Int) by omega]
    exact ih (i + 1) j w3 (by omega) (by omega) (hk2.tr k3)
theorem Sorts_l1 (hx : Ev enEl w A l c xs) (hy : Ev enEl w B m d ys) (he : xs.map En.k = ys.map En.k) (hl : l < 2 ^ 62) (hn : 10 < n) (hL : ∀ x ∈ xs, x.key.length < n ∧ x.key.length < 2 ^ 62) : ∀ (f i j : Nat) (w' : World), i + f = l → f < j → Kp w w' → Rt (butterylaw9_SkipSorts.l1 n j (some ⟨b, 0, none⟩) A l c B m d (i : Int) w') fun r => r.ex = .exit 2 ∧ r.vals = [pt b] ∧ Kp w r.w := by
  have hxl := hx.len
  have hyl := hy.len
  have hlm := congrArg List.length he
  rw [List.length_map, List.length_map] at hlm
  intro f
  induction f with
  | zero =>
    intro i j w' hi hj hk
    obtain ⟨j, rfl⟩ : ∃ j', j = j' + 1 := ⟨j - 1, by omega⟩
    rw [butterylaw9_SkipSorts.l1_succ]
    exact Rt.cDF (by omega) (Rt.some' ⟨rfl, rfl, hk⟩)
  | succ f ih =>
    intro i j w' hi hj hk
    obtain ⟨j, rfl⟩ : ∃ j', j = j' + 1 := ⟨j - 1, by omega⟩
    rw [butterylaw9_SkipSorts.l1_succ]
    have hkd := hk.dr
    refine Rt.cDT (by omega) (Rt.ixN (hx.kp hkd).sl (by omega) (by omega) fun y a B1 b1 b2 s k' C c1 c2 ey hv g0 g1 g2 g3 => ?_)
    (repeat (first | (with_reducible (first | refine Rt.fin ?_ | refine Rt.tL ?_ | refine Rt.tI ?_ | refine Rt.tB ?_ | refine Rt.tS ?_ | refine Rt.tP ?_ | refine Rt.tD ?_ | refine Rt.tM ?_ | refine Rt.tC ?_ | refine Rt.tN ?_ | refine Rt.tA ?_ | refine Rt.tG ?_ | refine Rt.tF ?_ | refine Rt.os ?_ | refine Rt.clS ?_ | refine Rt.jmN ?_ | refine Rt.jbN ?_ | refine Rt.jbE ?_)) | ((with_reducible (first | apply Rt.ld0 | apply Rt.ld1 | apply Rt.ld2 | apply Rt.ld3 | apply Rt.ld4 | apply Rt.ld5)); first | assumption | exact Lc.kp (by assumption) (by assumption)) | ((with_reducible apply Rt.ol); first | assumption | exact cell_kp (by assumption) (by assumption)) | ((with_reducible apply Rt.ckR); focus ((repeat (first | (with_reducible (first | refine Rt.fin ?_ | refine Rt.tL ?_ | refine Rt.tI ?_ | refine Rt.tB ?_ | refine Rt.tS ?_ | refine Rt.tP ?_ | refine Rt.tD ?_ | refine Rt.tM ?_ | refine Rt.tC ?_ | refine Rt.tN ?_ | refine Rt.tA ?_ | refine Rt.tG ?_ | refine Rt.tF ?_ | refine Rt.os ?_ | refine Rt.clS ?_ | refine Rt.jmN ?_ | refine Rt.jbN ?_ | refine Rt.jbE ?_)) | ((with_reducible (first | apply Rt.ld0 | apply Rt.ld1 | apply Rt.ld2 | apply Rt.ld3 | apply Rt.ld4 | apply Rt.ld5)); first | assumption | exact Lc.kp (by assumption) (by assumption)) | ((with_reducible apply Rt.ol); first | assumption | exact cell_kp (by assumption) (by assumption)))); exact Rt.some' rfl))))
    refine Rt.ixN (hy.kp hkd).sl (by omega) (by omega) fun z a' B1' b1' b2' s' k'' C' c1' c2' ez hv' g0' g1' g2' g3' => ?_
    (repeat (first | (with_reducible (first | refine Rt.fin ?_ | refine Rt.tL ?_ | refine Rt.tI ?_ | refine Rt.tB ?_ | refine Rt.tS ?_ | refine Rt.tP ?_ | refine Rt.tD ?_ | refine Rt.tM ?_ | refine Rt.tC ?_ | refine Rt.tN ?_ | refine Rt.tA ?_ | refine Rt.tG ?_ | refine Rt.tF ?_ | refine Rt.os ?_ | refine Rt.clS ?_ | refine Rt.jmN ?_ | refine Rt.jbN ?_ | refine Rt.jbE ?_)) | ((with_reducible (first | apply Rt.ld0 | apply Rt.ld1 | apply Rt.ld2 | apply Rt.ld3 | apply Rt.ld4 | apply Rt.ld5)); first | assumption | exact Lc.kp (by assumption) (by assumption)) | ((with_reducible apply Rt.ol); first | assumption | exact cell_kp (by assumption) (by assumption)) | ((with_reducible apply Rt.ckR); focus ((repeat (first | (with_reducible (first | refine Rt.fin ?_ | refine Rt.tL ?_ | refine Rt.tI ?_ | refine Rt.tB ?_ | refine Rt.tS ?_ | refine Rt.tP ?_ | refine Rt.tD ?_ | refine Rt.tM ?_ | refine Rt.tC ?_ | refine Rt.tN ?_ | refine Rt.tA ?_ | refine Rt.tG ?_ | refine Rt.tF ?_ | refine Rt.os ?_ | refine Rt.clS ?_ | refine Rt.jmN ?_ | refine Rt.jbN ?_ | refine Rt.jbE ?_)) | ((with_reducible (first | apply Rt.ld0 | apply Rt.ld1 | apply Rt.ld2 | apply Rt.ld3 | apply Rt.ld4 | apply Rt.ld5)); first | assumption | exact Lc.kp (by assumption) (by assumption)) | ((with_reducible apply Rt.ol); first | assumption | exact cell_kp (by assumption) (by assumption)))); exact Rt.some' rfl))))
    rw [Int.toNat_natCast] at ey ez
    have hkk : y.k = z.k := by
      have := congrArg (fun l => l[i]?) he
      simp only [List.getElem?_map, ey, ez, Option.map_some, Option.some.injEq] at this
      exact this
    have hyL := hL y (List.mem_of_getElem? ey)
    have hyl := hv.key.len
    refine Rt.cI (RCompare_spec hv.kv hv'.kv (by omega) (by omega)) fun w1 k1 => ?_
    rw [hkk, cmpK_refl0]
    refine Rt.cF rfl ?_
    rw [i64_in _ (by omega), show ((i : Int) + 1) = ((i + 1 : Nat) : Int) by omega]
    exact ih (i + 1) j w1 (by omega) (by omega) (hkd.tr k1)
theorem Sorts_l0 {t : Nat} {tu : Int} (htu : Int.tmod tu (l : Int) = (t : Int)) (ht : t < l) (hx : Ev enEl w A l c xs) (hv : Bv .i64 w B m d hs) (hlm : l ≤ m) (hl : l ≤ 60) (hn : 2 ^ 60 < n) : ∀ (f i j : Nat) (S T : Nat → Prop) (w' : World), i + f = l → f < j → Kp w w' → (∀ z, S z → w.heap.size ≤ z) → (∀ z, T z → w.heap.size ≤ z) → (∀ z, S z → ¬ T z) → SkA w' w.heap.size bx S (accP xs hs id i) → SkA w' w.heap.size by_ T (accP xs hs (turnP t l) i) →
    Rt (butterylaw9_SkipSorts.l0 n j A l c B m d tu (some ⟨bx, 0, none⟩) (some ⟨by_, 0, none⟩) (i : Int) w') fun r => r.ex = .exit 0 ∧ r.vals = [pt bx, pt by_] ∧ Kp w r.w ∧ ∃ S T, SkA r.w w.heap.size bx S (accP xs hs id l) ∧ SkA r.w w.heap.size by_ T (accP xs hs (turnP t l) l) := by
  have hxl := hx.len
  intro f
  induction f with
  | zero =>
    intro i j S T w' hi hj hk hS hT hd h g
    obtain ⟨j, rfl⟩ : ∃ j', j = j' + 1 := ⟨j - 1, by omega⟩
    obtain rfl : i = l := by omega
    rw [butterylaw9_SkipSorts.l0_succ]
    exact Rt.cDF (by omega) (Rt.some' ⟨rfl, rfl, hk, S, T, h, g⟩)
  | succ f ih =>
    intro i j S T w' hi hj hk hS hT hd h g
    obtain ⟨j, rfl⟩ : ∃ j', j = j' + 1 := ⟨j - 1, by omega⟩
    rw [butterylaw9_SkipSorts.l0_succ]
    have hkd := hk.dr
    have hdr := h.kp (Kp.rfl' w').dr
    have gdr := g.kp (Kp.rfl' w').dr
    (repeat (first | (with_reducible (first | refine Rt.fin ?_ | refine Rt.tL ?_ | refine Rt.tI ?_ | refine Rt.tB ?_ | refine Rt.tS ?_ | refine Rt.tP ?_ | refine Rt.tD ?_ | refine Rt.tM ?_ | refine Rt.tC ?_ | refine Rt.tN ?_ | refine Rt.tA ?_ | refine Rt.tG ?_ | refine Rt.tF ?_ | refine Rt.os ?_ | refine Rt.clS ?_ | refine Rt.jmN ?_ | refine Rt.jbN ?_ | refine Rt.jbE ?_)) | ((with_reducible (first | apply Rt.ld0 | apply Rt.ld1 | apply Rt.ld2 | apply Rt.ld3 | apply Rt.ld4 | apply Rt.ld5)); first | assumption | exact Lc.kp (by assumption) (by assumption)) | ((with_reducible apply Rt.ol); first | assumption | exact cell_kp (by assumption) (by assumption)) | ((with_reducible apply Rt.ckR); focus ((repeat (first | (with_reducible (first | refine Rt.fin ?_ | refine Rt.tL ?_ | refine Rt.tI ?_ | refine Rt.tB ?_ | refine Rt.tS ?_ | refine Rt.tP ?_ | refine Rt.tD ?_ | refine Rt.tM ?_ | refine Rt.tC ?_ | refine Rt.tN ?_ | refine Rt.tA ?_ | refine Rt.tG ?_ | refine Rt.tF ?_ | refine Rt.os ?_ | refine Rt.clS ?_ | refine Rt.jmN ?_ | refine Rt.jbN ?_ | refine Rt.jbE ?_)) | ((with_reducible (first | apply Rt.ld0 | apply Rt.ld1 | apply Rt.ld2 | apply Rt.ld3 | apply Rt.ld4 | apply Rt.ld5)); first | assumption | exact Lc.kp (by assumption) (by assumption)) | ((with_reducible apply Rt.ol); first | assumption | exact cell_kp (by assumption) (by assumption)))); exact Rt.some' rfl))))
    refine Rt.cDT (by omega) (Rt.ixN (hx.kp hkd).sl (by omega) (by omega) fun y a B1 b1 b2 s k C c1 c2 ey he g0 g1 g2 g3 => ?_)
    (repeat (first | (with_reducible (first | refine Rt.fin ?_ | refine Rt.tL ?_ | refine Rt.tI ?_ | refine Rt.tB ?_ | refine Rt.tS ?_ | refine Rt.tP ?_ | refine Rt.tD ?_ | refine Rt.tM ?_ | refine Rt.tC ?_ | refine Rt.tN ?_ | refine Rt.tA ?_ | refine Rt.tG ?_ | refine Rt.tF ?_ | refine Rt.os ?_ | refine Rt.clS ?_ | refine Rt.jmN ?_ | refine Rt.jbN ?_ | refine Rt.jbE ?_)) | ((with_reducible (first | apply Rt.ld0 | apply Rt.ld1 | apply Rt.ld2 | apply Rt.ld3 | apply Rt.ld4 | apply Rt.ld5)); first | assumption | exact Lc.kp (by assumption) (by assumption)) | ((with_reducible apply Rt.ol); first | assumption | exact cell_kp (by assumption) (by assumption)) | ((with_reducible apply Rt.ckR); focus ((repeat (first | (with_reducible (first | refine Rt.fin ?_ | refine Rt.tL ?_ | refine Rt.tI ?_ | refine Rt.tB ?_ | refine Rt.tS ?_ | refine Rt.tP ?_ | refine Rt.tD ?_ | refine Rt.tM ?_ | refine Rt.tC ?_ | refine Rt.tN ?_ | refine Rt.tA ?_ | refine Rt.tG ?_ | refine Rt.tF ?_ | refine Rt.os ?_ | refine Rt.clS ?_ | refine Rt.jmN ?_ | refine Rt.jbN ?_ | refine Rt.jbE ?_)) | ((with_reducible (first | apply Rt.ld0 | apply Rt.ld1 | apply Rt.ld2 | apply Rt.ld3 | apply Rt.ld4 | apply Rt.ld5)); first | assumption | exact Lc.kp (by assumption) (by assumption)) | ((with_reducible apply Rt.ol); first | assumption | exact cell_kp (by assumption) (by assumption)))); exact Rt.some' rfl))))
    obtain ⟨q, hq, hq'⟩ := int_at hv (i := i) (by omega)
    refine Rt.ix (hv.kp hkd).sl (by omega) (by omega) ?_
    rw [Int.toNat_natCast, hq']
    rw [Int.toNat_natCast] at ey
    have hz := hkd.size
    have hal := accP_len (xs := xs) (hs := hs) (p := id) i
    have hbl := accP_len (xs := xs) (hs := hs) (p := turnP t l) i
    refine Rt.cRF (Insert_spec (H := q) hdr he hz (by omega) hn) fun w4 S' g4 z4 h4 => ?_
    (repeat (first | (with_reducible (first | refine Rt.fin ?_ | refine Rt.tL ?_ | refine Rt.tI ?_ | refine Rt.tB ?_ | refine Rt.tS ?_ | refine Rt.tP ?_ | refine Rt.tD ?_ | refine Rt.tM ?_ | refine Rt.tC ?_ | refine Rt.tN ?_ | refine Rt.tA ?_ | refine Rt.tG ?_ | refine Rt.tF ?_ | refine Rt.os ?_ | refine Rt.clS ?_ | refine Rt.jmN ?_ | refine Rt.jbN ?_ | refine Rt.jbE ?_)) | ((with_reducible (first | apply Rt.ld0 | apply Rt.ld1 | apply Rt.ld2 | apply Rt.ld3 | apply Rt.ld4 | apply Rt.ld5)); first | assumption | exact Lc.kp (by assumption) (by assumption)) | ((with_reducible apply Rt.ol); first | assumption | exact cell_kp (by assumption) (by assumption)) | ((with_reducible apply Rt.ckR); focus ((repeat (first | (with_reducible (first | refine Rt.fin ?_ | refine Rt.tL ?_ | refine Rt.tI ?_ | refine Rt.tB ?_ | refine Rt.tS ?_ | refine Rt.tP ?_ | refine Rt.tD ?_ | refine Rt.tM ?_ | refine Rt.tC ?_ | refine Rt.tN ?_ | refine Rt.tA ?_ | refine Rt.tG ?_ | refine Rt.tF ?_ | refine Rt.os ?_ | refine Rt.clS ?_ | refine Rt.jmN ?_ | refine Rt.jbN ?_ | refine Rt.jbE ?_)) | ((with_reducible (first | apply Rt.ld0 | apply Rt.ld1 | apply Rt.ld2 | apply Rt.ld3 | apply Rt.ld4 | apply Rt.ld5)); first | assumption | exact Lc.kp (by assumption) (by assumption)) | ((with_reducible apply Rt.ol); first | assumption | exact cell_kp (by assumption) (by assumption)))); exact Rt.some' rfl))))
    have hk4 : Kp w w4 := hkd.tx g4 hS
    have hd4 : ∀ z, S' z → ¬ T z := fun z hz' ht' => by
      rcases z4 z hz' with e | e
      · exact hd z e ht'
      · have := (gdr.lt ht').2; omega
    have hS4 : ∀ z, S' z → w.heap.size ≤ z := fun z hz' => by
      rcases z4 z hz' with e | e
      · exact hS z e
      · exact Nat.le_trans hz e
    have gy := gdr.gx g4 fun z ht' hs' => hd z hs' ht'
    refine Rt.iF (by omega) (Rt.iF (by omega) ?_)
    rw [htu, i64_in _ (by omega)]
    have hpl := Nat.mod_lt (i + t) (show 0 < l by omega)
    have htm : Int.tmod ((i : Int) + (t : Int)) (l : Int) = ((turnP t l i : Nat) : Int) := by
      rw [show ((i : Int) + (t : Int)) = ((i + t : Nat) : Int) by omega]; exact (Int.ofNat_tmod (i + t) l).symm
    rw [htm]
    have hpl : turnP t l i < l := hpl
    have hk4d := hk4.dr
    refine Rt.ixN (hx.kp hk4d).sl (by omega) (by omega) fun y' a' B1' b1' b2' s' k'' C' c1' c2' ey' he' g0' g1' g2' g3' => ?_
    (repeat (first | (with_reducible (first | refine Rt.fin ?_ | refine Rt.tL ?_ | refine Rt.tI ?_ | refine Rt.tB ?_ | refine Rt.tS ?_ | refine Rt.tP ?_ | refine Rt.tD ?_ | refine Rt.tM ?_ | refine Rt.tC ?_ | refine Rt.tN ?_ | refine Rt.tA ?_ | refine Rt.tG ?_ | refine Rt.tF ?_ | refine Rt.os ?_ | refine Rt.clS ?_ | refine Rt.jmN ?_ | refine Rt.jbN ?_ | refine Rt.jbE ?_)) | ((with_reducible (first | apply Rt.ld0 | apply Rt.ld1 | apply Rt.ld2 | apply Rt.ld3 | apply Rt.ld4 | apply Rt.ld5)); first | assumption | exact Lc.kp (by assumption) (by assumption)) | ((with_reducible apply Rt.ol); first | assumption | exact cell_kp (by assumption) (by assumption)) | ((with_reducible apply Rt.ckR); focus ((repeat (first | (with_reducible (first | refine Rt.fin ?_ | refine Rt.tL ?_ | refine Rt.tI ?_ | refine Rt.tB ?_ | refine Rt.tS ?_ | refine Rt.tP ?_ | refine Rt.tD ?_ | refine Rt.tM ?_ | refine Rt.tC ?_ | refine Rt.tN ?_ | refine Rt.tA ?_ | refine Rt.tG ?_ | refine Rt.tF ?_ | refine Rt.os ?_ | refine Rt.clS ?_ | refine Rt.jmN ?_ | refine Rt.jbN ?_ | refine Rt.jbE ?_)) | ((with_reducible (first | apply Rt.ld0 | apply Rt.ld1 | apply Rt.ld2 | apply Rt.ld3 | apply Rt.ld4 | apply Rt.ld5)); first | assumption | exact Lc.kp (by assumption) (by assumption)) | ((with_reducible apply Rt.ol); first | assumption | exact cell_kp (by assumption) (by assumption)))); exact Rt.some' rfl))))
    obtain ⟨q2, hq2, hq2'⟩ := int_at hv (i := turnP t l i) (by omega)
    refine Rt.ix (hv.kp hk4d).sl (by omega) (by omega) ?_
    rw [Int.toNat_natCast, hq2']
    rw [Int.toNat_natCast] at ey'
    have hz4 := hk4d.size
    have gyd := gy.kp (Kp.rfl' w4).dr
    have hxd := h4.kp (Kp.rfl' w4).dr
    refine Rt.cRF (Insert_spec (H := q2) gyd he' hz4 (by omega) hn) fun w5 T' g5 z5 h5 => ?_
    (repeat (first | (with_reducible (first | refine Rt.fin ?_ | refine Rt.tL ?_ | refine Rt.tI ?_ | refine Rt.tB ?_ | refine Rt.tS ?_ | refine Rt.tP ?_ | refine Rt.tD ?_ | refine Rt.tM ?_ | refine Rt.tC ?_ | refine Rt.tN ?_ | refine Rt.tA ?_ | refine Rt.tG ?_ | refine Rt.tF ?_ | refine Rt.os ?_ | refine Rt.clS ?_ | refine Rt.jmN ?_ | refine Rt.jbN ?_ | refine Rt.jbE ?_)) | ((with_reducible (first | apply Rt.ld0 | apply Rt.ld1 | apply Rt.ld2 | apply Rt.ld3 | apply Rt.ld4 | apply Rt.ld5)); first | assumption | exact Lc.kp (by assumption) (by assumption)) | ((with_reducible apply Rt.ol); first | assumption | exact cell_kp (by assumption) (by assumption)) | ((with_reducible apply Rt.ckR); focus ((repeat (first | (with_reducible (first | refine Rt.fin ?_ | refine Rt.tL ?_ | refine Rt.tI ?_ | refine Rt.tB ?_ | refine Rt.tS ?_ | refine Rt.tP ?_ | refine Rt.tD ?_ | refine Rt.tM ?_ | refine Rt.tC ?_ | refine Rt.tN ?_ | refine Rt.tA ?_ | refine Rt.tG ?_ | refine Rt.tF ?_ | refine Rt.os ?_ | refine Rt.clS ?_ | refine Rt.jmN ?_ | refine Rt.jbN ?_ | refine Rt.jbE ?_)) | ((with_reducible (first | apply Rt.ld0 | apply Rt.ld1 | apply Rt.ld2 | apply Rt.ld3 | apply Rt.ld4 | apply Rt.ld5)); first | assumption | exact Lc.kp (by assumption) (by assumption)) | ((with_reducible apply Rt.ol); first | assumption | exact cell_kp (by assumption) (by assumption)))); exact Rt.some' rfl))))
    rw [i64_in _ (by omega), show ((i : Int) + 1) = ((i + 1 : Nat) : Int) by omega]
    refine ih (i + 1) j S' T' w5 (by omega) (by omega) (hk4d.tx g5 hT) hS4 (fun z hz' => ?_) (fun z hs' hz' => ?_) ?_ ?_
    · rcases z5 z hz' with e | e
      · exact hT z e
      · exact Nat.le_trans hz4 e
    · rcases z5 z hz' with e | e
      · exact hd4 z hs' e
      · have := (hxd.lt hs').2; omega
    · rw [accP_succ (p := id) ey hq]
      exact hxd.gx g5 fun z hs' ht' => hd4 z hs' ht'
    · rw [accP_succ ey' hq2]; exact h5
theorem acc_ok (h : SkA w base b S ks) : ∀ x ∈ ks.map Prod.fst, x.key.length ≤ 256 := fun x hx => by
  obtain ⟨y, hy, rfl⟩ := List.mem_map.1 hx
  exact (h.ok y hy).1.1.2.1
theorem srt_rising (h : srtA ks) : risingE (ks.map Prod.fst) := by
  refine rising_at.2 fun i x y h1 h2 => ?_
  rw [List.getElem?_map] at h1 h2
  cases e1 : ks[i]? with
  | none => rw [e1] at h1; cases h1
  | some a =>
    cases e2 : ks[i + 1]? with
    | none => rw [e2] at h2; cases h2
    | some a' =>
      rw [e1] at h1; rw [e2] at h2
      injection h1 with h1; injection h2 with h2
      subst h1 h2
      obtain ⟨l1, r1⟩ := List.getElem?_eq_some_iff.1 e1
      obtain ⟨l2, r2⟩ := List.getElem?_eq_some_iff.1 e2
      have := List.pairwise_iff_getElem.1 h i (i + 1) l1 l2 (by omega)
      rw [r1, r2] at this
      exact this
theorem SkipSorts_spec {tu : Int} (hx : Ev enEl w A l c xs) (hv : Bv .i64 w B m d hs) (hl : l < 2 ^ 63) (hn : 2 ^ 63 < n) : Rt (butterylaw9_SkipSorts n [.slice A l c, .slice B m d, .int .i64 tu] w) (RB True w) := by
  have hn60 : 2 ^ 60 < n := by omega
  rw [butterylaw9_SkipSorts_eq]
  refine Rt.fin (Rt.cBt (alive_spec hn60) trivial fun w1 k1 => ?_)
  refine Rt.cBo (Big_spec (hx.kp k1) hl (by omega)) fun b w2 hb k2 => Rt.cF rfl (Rt.cB (fun _ => Rt.endB (by simp) (k1.tr k2)) fun hb0 => ?_)
  have hl60 : l ≤ 60 := by
    have : ¬ bigE xs := fun h => by rw [hb.2 h] at hb0; cases hb0
    have hxl := hx.len
    unfold bigE at this
    omega
  have k12 := k1.tr k2
  refine Rt.cD (fun _ => Rt.endB (by simp) k12) fun hlm => Rt.cD (fun _ => Rt.endB (by simp) k12) fun hl1 => Rt.cD (fun _ => Rt.endB (by simp) k12) fun htu => ?_
  obtain ⟨t0, rfl⟩ : ∃ q : Nat, tu = (q : Int) := ⟨tu.toNat, by omega⟩
  have htm : Int.tmod (t0 : Int) (l : Int) = ((t0 % l : Nat) : Int) := (Int.ofNat_tmod t0 l).symm
  have htl := Nat.mod_lt t0 (show 0 < l by omega)
  refine Rt.cNew (New_spec (base := w2.heap.size) (Nat.le_refl _) (by omega)) fun w3 bx S k3 h3 hS => ?_
  (repeat (first | (with_reducible (first | refine Rt.fin ?_ | refine Rt.tL ?_ | refine Rt.tI ?_ | refine Rt.tB ?_ | refine Rt.tS ?_ | refine Rt.tP ?_ | refine Rt.tD ?_ | refine Rt.tM ?_ | refine Rt.tC ?_ | refine Rt.tN ?_ | refine Rt.tA ?_ | refine Rt.tG ?_ | refine Rt.tF ?_ | refine Rt.os ?_ | refine Rt.clS ?_ | refine Rt.jmN ?_ | refine Rt.jbN ?_ | refine Rt.jbE ?_)) | ((with_reducible (first | apply Rt.ld0 | apply Rt.ld1 | apply Rt.ld2 | apply Rt.ld3 | apply Rt.ld4 | apply Rt.ld5)); first | assumption | exact Lc.kp (by assumption) (by assumption)) | ((with_reducible apply Rt.ol); first | assumption | exact cell_kp (by assumption) (by assumption)) | ((with_reducible apply Rt.ckR); focus ((repeat (first | (with_reducible (first | refine Rt.fin ?_ | refine Rt.tL ?_ | refine Rt.tI ?_ | refine Rt.tB ?_ | refine Rt.tS ?_ | refine Rt.tP ?_ | refine Rt.tD ?_ | refine Rt.tM ?_ | refine Rt.tC ?_ | refine Rt.tN ?_ | refine Rt.tA ?_ | refine Rt.tG ?_ | refine Rt.tF ?_ | refine Rt.os ?_ | refine Rt.clS ?_ | refine Rt.jmN ?_ | refine Rt.jbN ?_ | refine Rt.jbE ?_)) | ((with_reducible (first | apply Rt.ld0 | apply Rt.ld1 | apply Rt.ld2 | apply Rt.ld3 | apply Rt.ld4 | apply Rt.ld5)); first | assumption | exact Lc.kp (by assumption) (by assumption)) | ((with_reducible apply Rt.ol); first | assumption | exact cell_kp (by assumption) (by assumption)))); exact Rt.some' rfl))))
  have z3 := k3.size
  refine Rt.cNew (New_spec (base := w2.heap.size) (by omega) (by omega)) fun w4 by_ T k4 h4 hT => ?_
  (repeat (first | (with_reducible (first | refine Rt.fin ?_ | refine Rt.tL ?_ | refine Rt.tI ?_ | refine Rt.tB ?_ | refine Rt.tS ?_ | refine Rt.tP ?_ | refine Rt.tD ?_ | refine Rt.tM ?_ | refine Rt.tC ?_ | refine Rt.tN ?_ | refine Rt.tA ?_ | refine Rt.tG ?_ | refine Rt.tF ?_ | refine Rt.os ?_ | refine Rt.clS ?_ | refine Rt.jmN ?_ | refine Rt.jbN ?_ | refine Rt.jbE ?_)) | ((with_reducible (first | apply Rt.ld0 | apply Rt.ld1 | apply Rt.ld2 | apply Rt.ld3 | apply Rt.ld4 | apply Rt.ld5)); first | assumption | exact Lc.kp (by assumption) (by assumption)) | ((with_reducible apply Rt.ol); first | assumption | exact cell_kp (by assumption) (by assumption)) | ((with_reducible apply Rt.ckR); focus ((repeat (first | (with_reducible (first | refine Rt.fin ?_ | refine Rt.tL ?_ | refine Rt.tI ?_ | refine Rt.tB ?_ | refine Rt.tS ?_ | refine Rt.tP ?_ | refine Rt.tD ?_ | refine Rt.tM ?_ | refine Rt.tC ?_ | refine Rt.tN ?_ | refine Rt.tA ?_ | refine Rt.tG ?_ | refine Rt.tF ?_ | refine Rt.os ?_ | refine Rt.clS ?_ | refine Rt.jmN ?_ | refine Rt.jbN ?_ | refine Rt.jbE ?_)) | ((with_reducible (first | apply Rt.ld0 | apply Rt.ld1 | apply Rt.ld2 | apply Rt.ld3 | apply Rt.ld4 | apply Rt.ld5)); first | assumption | exact Lc.kp (by assumption) (by assumption)) | ((with_reducible apply Rt.ol); first | assumption | exact cell_kp (by assumption) (by assumption)))); exact Rt.some' rfl))))
  refine Rt.jb (Rt.mono (Sorts_l0 htm htl (hx.kp k12) (hv.kp k12) (by omega) hl60 hn60 l 0 n S T w4 (by omega) (by omega) (k3.tr k4) hS (fun z hz => Nat.le_trans z3 (hT z hz)) (fun z hs' ht' => by have := (h3.lt hs').2; have := hT z ht'; omega) (h3.kp k4) h4) ?_)
  rintro ⟨ex, vs, w5⟩ ⟨e1, e2, k5, S5, T5, h5, g5⟩
  dsimp only at e1 e2 k5 h5 g5
  subst e1 e2
  refine .inl ⟨.inr rfl, ?_⟩
  (repeat (first | (with_reducible (first | refine Rt.fin ?_ | refine Rt.tL ?_ | refine Rt.tI ?_ | refine Rt.tB ?_ | refine Rt.tS ?_ | refine Rt.tP ?_ | refine Rt.tD ?_ | refine Rt.tM ?_ | refine Rt.tC ?_ | refine Rt.tN ?_ | refine Rt.tA ?_ | refine Rt.tG ?_ | refine Rt.tF ?_ | refine Rt.os ?_ | refine Rt.clS ?_ | refine Rt.jmN ?_ | refine Rt.jbN ?_ | refine Rt.jbE ?_)) | ((with_reducible (first | apply Rt.ld0 | apply Rt.ld1 | apply Rt.ld2 | apply Rt.ld3 | apply Rt.ld4 | apply Rt.ld5)); first | assumption | exact Lc.kp (by assumption) (by assumption)) | ((with_reducible apply Rt.ol); first | assumption | exact cell_kp (by assumption) (by assumption)) | ((with_reducible apply Rt.ckR); focus ((repeat (first | (with_reducible (first | refine Rt.fin ?_ | refine Rt.tL ?_ | refine Rt.tI ?_ | refine Rt.tB ?_ | refine Rt.tS ?_ | refine Rt.tP ?_ | refine Rt.tD ?_ | refine Rt.tM ?_ | refine Rt.tC ?_ | refine Rt.tN ?_ | refine Rt.tA ?_ | refine Rt.tG ?_ | refine Rt.tF ?_ | refine Rt.os ?_ | refine Rt.clS ?_ | refine Rt.jmN ?_ | refine Rt.jbN ?_ | refine Rt.jbE ?_)) | ((with_reducible (first | apply Rt.ld0 | apply Rt.ld1 | apply Rt.ld2 | apply Rt.ld3 | apply Rt.ld4 | apply Rt.ld5)); first | assumption | exact Lc.kp (by assumption) (by assumption)) | ((with_reducible apply Rt.ol); first | assumption | exact cell_kp (by assumption) (by assumption)))); exact Rt.some' rfl))))
  have hxl := hx.len
  have hvl := hv.len
  have hkeys := sorted_eq (srt_keys h5.srt) (srt_keys g5.srt) (turn_keys (xs := xs) (hs := hs) (l := l) (t := t0 % l) (by omega) (by omega) htl)
  have hal := accP_len (xs := xs) (hs := hs) (p := id) l
  have hbl := accP_len (xs := xs) (hs := hs) (p := turnP (t0 % l) l) l
  generalize accP xs hs id l = ks at *
  generalize accP xs hs (turnP (t0 % l) l) l = js at *
  have hkl := congrArg List.length hkeys
  unfold keysA at hkl
  rw [List.length_map, List.length_map] at hkl
  refine Rt.cEv (All_spec h5 hn60 (by omega)) fun D d6 w6 h6 k6 => ?_
  rw [level0 h5.ok] at h6 ⊢
  rw [List.length_map] at h6 ⊢
  have hok := acc_ok h5
  refine Rt.cBt (RRising_spec h6 (by omega) (by omega) (fun x hx => by have := hok x hx; omega) (fun x hx => by have := hok x hx; omega)) (srt_rising h5.srt) fun w7 k7 => Rt.cF rfl ?_
  have k67 := k6.tr k7
  refine Rt.cI (Len_spec (n := n) (h5.kp k67)) fun w8 k8 => Rt.cI (Len_spec (n := n) ((g5.kp k67).kp k8)) fun w9 k9 => Rt.cN (fun _ => ?_) fun h => absurd (by omega) h
  have k69 := (k67.tr k8).tr k9
  refine Rt.cI (Len_spec (n := n) (h5.kp k69)) fun w10 k10 => Rt.cN (fun _ => ?_) fun h => absurd rfl h
  have k610 := k69.tr k10
  refine Rt.cEv (All_spec (g5.kp k610) hn60 (by omega)) fun D2 d11 w11 h11 k11 => ?_
  rw [level0 g5.ok] at h11 ⊢
  rw [List.length_map] at h11 ⊢
  have k611 := k610.tr k11
  refine Rt.jb (Rt.mono (Sorts_l1 (b := bx) ((((h6.kp (k7.tr k8)).kp k9).kp k10).kp k11) h11 (by rw [List.map_map, List.map_map]; exact hkeys) (by omega) (by omega) (fun x hx => by have := hok x hx; omega) ks.length 0 n w11 (by omega) (by omega) (Kp.rfl' _)) ?_)
  rintro ⟨ex, vs, w12⟩ ⟨e1, e2, k12'⟩
  dsimp only at e1 e2 k12'
  subst e1 e2
  refine .inl ⟨.inr rfl, ?_⟩
  (repeat (first | (with_reducible (first | refine Rt.fin ?_ | refine Rt.tL ?_ | refine Rt.tI ?_ | refine Rt.tB ?_ | refine Rt.tS ?_ | refine Rt.tP ?_ | refine Rt.tD ?_ | refine Rt.tM ?_ | refine Rt.tC ?_ | refine Rt.tN ?_ | refine Rt.tA ?_ | refine Rt.tG ?_ | refine Rt.tF ?_ | refine Rt.os ?_ | refine Rt.clS ?_ | refine Rt.jmN ?_ | refine Rt.jbN ?_ | refine Rt.jbE ?_)) | ((with_reducible (first | apply Rt.ld0 | apply Rt.ld1 | apply Rt.ld2 | apply Rt.ld3 | apply Rt.ld4 | apply Rt.ld5)); first | assumption | exact Lc.kp (by assumption) (by assumption)) | ((with_reducible apply Rt.ol); first | assumption | exact cell_kp (by assumption) (by assumption)) | ((with_reducible apply Rt.ckR); focus ((repeat (first | (with_reducible (first | refine Rt.fin ?_ | refine Rt.tL ?_ | refine Rt.tI ?_ | refine Rt.tB ?_ | refine Rt.tS ?_ | refine Rt.tP ?_ | refine Rt.tD ?_ | refine Rt.tM ?_ | refine Rt.tC ?_ | refine Rt.tN ?_ | refine Rt.tA ?_ | refine Rt.tG ?_ | refine Rt.tF ?_ | refine Rt.os ?_ | refine Rt.clS ?_ | refine Rt.jmN ?_ | refine Rt.jbN ?_ | refine Rt.jbE ?_)) | ((with_reducible (first | apply Rt.ld0 | apply Rt.ld1 | apply Rt.ld2 | apply Rt.ld3 | apply Rt.ld4 | apply Rt.ld5)); first | assumption | exact Lc.kp (by assumption) (by assumption)) | ((with_reducible apply Rt.ol); first | assumption | exact cell_kp (by assumption) (by assumption)))); exact Rt.some' rfl))))
  refine Rt.jb (Rt.mono (Sorts_l2 ((h5.kp k611).kp k12') (by omega) hn60 12 0 n w12 (by omega) (by omega) (Kp.rfl' _)) ?_)
  rintro ⟨ex, vs, w13⟩ ⟨e1, e2, k13⟩
  dsimp only at e1 e2 k13
  subst e1 e2
  refine .inl ⟨.inr rfl, ?_⟩
  (repeat (first | (with_reducible (first | refine Rt.fin ?_ | refine Rt.tL ?_ | refine Rt.tI ?_ | refine Rt.tB ?_ | refine Rt.tS ?_ | refine Rt.tP ?_ | refine Rt.tD ?_ | refine Rt.tM ?_ | refine Rt.tC ?_ | refine Rt.tN ?_ | refine Rt.tA ?_ | refine Rt.tG ?_ | refine Rt.tF ?_ | refine Rt.os ?_ | refine Rt.clS ?_ | refine Rt.jmN ?_ | refine Rt.jbN ?_ | refine Rt.jbE ?_)) | ((with_reducible (first | apply Rt.ld0 | apply Rt.ld1 | apply Rt.ld2 | apply Rt.ld3 | apply Rt.ld4 | apply Rt.ld5)); first | assumption | exact Lc.kp (by assumption) (by assumption)) | ((with_reducible apply Rt.ol); first | assumption | exact cell_kp (by assumption) (by assumption)) | ((with_reducible apply Rt.ckR); focus ((repeat (first | (with_reducible (first | refine Rt.fin ?_ | refine Rt.tL ?_ | refine Rt.tI ?_ | refine Rt.tB ?_ | refine Rt.tS ?_ | refine Rt.tP ?_ | refine Rt.tD ?_ | refine Rt.tM ?_ | refine Rt.tC ?_ | refine Rt.tN ?_ | refine Rt.tA ?_ | refine Rt.tG ?_ | refine Rt.tF ?_ | refine Rt.os ?_ | refine Rt.clS ?_ | refine Rt.jmN ?_ | refine Rt.jbN ?_ | refine Rt.jbE ?_)) | ((with_reducible (first | apply Rt.ld0 | apply Rt.ld1 | apply Rt.ld2 | apply Rt.ld3 | apply Rt.ld4 | apply Rt.ld5)); first | assumption | exact Lc.kp (by assumption) (by assumption)) | ((with_reducible apply Rt.ol); first | assumption | exact cell_kp (by assumption) (by assumption)))); exact Rt.some' rfl))))
  exact Rt.endB (by simp) ((((k12.tr k5).tr k611).tr k12').tr k13)
end
end Go.Proofs.Ytoilmnplocfipaa.Sk
