/- HistoryBack. -/
import Derived.Test.YtdcdgmiojlldaaaHM
namespace Go.Proofs.Ytdcdgmiojlldaaa.Hi
open Go Big Go.RowKit Go.IntWalk Go.Maps Go.WideShapes
set_option linter.unusedVariables false
set_option linter.unusedSimpArgs false
section
variable {α : Type} {Q : α → Prop} {n m base mb b g N i b1 b2 : Nat} {w w' w0 w1 ws : World} {A B C A2 : Option Addr} {l c m1 d1 m2 d2 d k c2 : Nat} {bs cs fr to : List Int} {S T : Nat → Prop} {qs F : List KV} {X : List (List OpD)} {ops : List OpD}
theorem Rt.ixKV (hs : SlE prEl ws A l F) (hk : Kp ws w) {i : Int} (h0 : 0 ≤ i) (h1 : i < l) {g : Addr → Option α}
    (h : ∀ q a B m d C k e, F[i.toNat]? = some q → Bv .u8 ws B m d q.1 → Bv .u8 ws C k e q.2 → w.cell? a = some (.slice B m d) → w.cell? (a.add 1) = some (.slice C k e) → Rt (g a) Q) : Rt (ixA A l i 2 g) Q := by
  refine Rt.ixe (E := prEl) hs rfl h0 h1 fun y a us e1 _ e3 e4 => ?_
  obtain ⟨B, m, d, C, k, e, rfl, hb, hc⟩ := e3
  have c0 := e4 0 _ rfl
  rw [Addr.add_zero'] at c0
  exact h y a B m d C k e e1 hb hc (cell_kp c0 hk) (cell_kp (e4 1 _ rfl) hk)
theorem bl_str {a b : List Int} : Op.bytesLess (Big.str a).toList (Big.str b).toList = Op.bytesLess (bts a) (bts b) := by rw [str_toList, str_toList]; rfl
theorem Back_l1 (hn : 2 ^ 63 < n) (hA : Ev prEl ws A l c F) (hB : Ev prEl ws A2 l c2 F.reverse) {fA tA : Option Addr} {fl fc tl tc : Nat} (hf : Bv .u8 ws fA fl fc fr) (ht : Bv .u8 ws tA tl tc to) (hH : Hm ws base mb X) (hS : Small X) (hl : l ≤ 511)
    (hup : F.Pairwise fun a b => Lt a.1 b.1) (hpd : ∀ q ∈ F, pd fr to q = false) (hst : ∀ q ∈ F, stF X q.1 = some q.2) (hq : ∀ q ∈ F, q.1.length ≤ 2 ^ 20 ∧ q.2.length ≤ 2 ^ 20) : ∀ (e i m : Nat) (w : World), i + e = l → e < m → Kp ws w →
    Rt (butterylaw22_HistoryBack.l1 n m fA fl fc tA tl tc (some ⟨mb, 0, none⟩) A l c A2 l c2 (i : Int) w) fun y => ∃ w', y = ⟨.exit 2, [], w'⟩ ∧ Kp ws w' := by
  have hFl := hA.len
  have htl := ht.len
  intro e
  induction e with
  | zero =>
    intro i m w hi hm hk
    obtain ⟨m, rfl⟩ : ∃ m', m = m' + 1 := ⟨m - 1, by omega⟩
    rw [butterylaw22_HistoryBack.l1_succ]
    exact Rt.cDF (by omega) (Rt.some' ⟨w, rfl, hk⟩)
  | succ e ih =>
    intro i m w hi hm hk
    obtain ⟨m, rfl⟩ : ∃ m', m = m' + 1 := ⟨m - 1, by omega⟩
    rw [butterylaw22_HistoryBack.l1_succ]
    have hkd := hk.dr
    have hqi : F[i]? = some (F[i]'(by omega)) := List.getElem?_eq_getElem _
    generalize (F[i]'(by omega)) = q at hqi
    have hqm := List.mem_of_getElem? hqi
    obtain ⟨out1, out2⟩ := pd_out (hpd q hqm)
    have hql := hq q hqm
    have one : ∀ {α : Type} {Q : α → Prop} {w1 : World} {f : Addr → Option α}, Kp ws w1 → (∀ a B m d C k e, Bv .u8 w1 B m d q.1 → Bv .u8 w1 C k e q.2 → w1.cell? a = some (.slice B m d) → w1.cell? (a.add 1) = some (.slice C k e) → Rt (f a) Q) → Rt (ixA A l (i : Int) 2 f) Q := fun {α Q w1 f} hk1 hf => by
      refine Rt.ixKV hA.sl hk1 (by omega) (by omega) fun q' a B m d C k e eq hb hc c0 c1 => ?_
      rw [Int.toNat_natCast, hqi] at eq
      obtain rfl := Option.some.inj eq
      exact hf a B m d C k e (hb.kp hk1) (hc.kp hk1) c0 c1
    refine Rt.cDT (by omega) (Rt.jb (i := 3) (Rt.mono (Q' := fun y => ∃ w2, y = ⟨.norm, [.slice fA fl fc, .slice tA tl tc, pt mb, .slice A l c, .slice A2 l c2, .int .i64 (i : Int)], w2⟩ ∧ Kp ws w2) ?_ ?_))
    · refine Rt.jm (Rt.mono (Q' := fun y => y = ⟨.norm, [.slice fA fl fc, .slice tA tl tc, pt mb, .slice A l c, .slice A2 l c2, .int .i64 (i : Int)], w.drew⟩) ?_ ?_)
      · refine one hkd fun a B m d C k e hb _ c0 _ => Rt.ol c0 (Rt.tL (Rt.str hb ?_))
        rw [i64_in ((l : Int) - 1) (by omega), i64_in ((l : Int) - 1 - i) (by omega)]
        refine Rt.ixKV hB.sl hkd (by omega) (by omega) fun q2 a2 B2 m2 d2 C2 k2 e2 eq2 hb2 _ c2' _ => Rt.ol c2' (Rt.tL (Rt.str (hb2.kp hkd) ?_))
        rw [List.getElem?_reverse (by omega), show F.length - 1 - ((l : Int) - 1 - i).toNat = i by omega, hqi] at eq2
        obtain rfl := Option.some.inj eq2
        refine Rt.cF (by simp) (one hkd fun a B m d C k e hb _ c0 _ => Rt.ol c0 (Rt.tL (Rt.str hb (Rt.str (hf.kp hkd) ?_))))
        refine Rt.cF (by rw [bl_str]; exact out1) ?_
        refine Rt.cD (fun hpos => ?_) fun _ => Rt.some' rfl
        refine one hkd fun a B m d C k e hb _ c0 _ => Rt.ol c0 (Rt.tL (Rt.str hb (Rt.str (ht.kp hkd) ?_)))
        exact Rt.cF (by rw [bl_str, out2 (by omega)]; rfl) (Rt.some' rfl)
      rintro _ rfl
      refine ⟨rfl, ?_⟩
      dsimp only
      (repeat (first | (with_reducible (first | refine Rt.fin ?_ | refine Rt.tL ?_ | refine Rt.tI ?_ | refine Rt.tB ?_ | refine Rt.tS ?_ | refine Rt.tP ?_ | refine Rt.tD ?_ | refine Rt.tM ?_ | refine Rt.tC ?_ | refine Rt.tN ?_ | refine Rt.tA ?_ | refine Rt.tG ?_ | refine Rt.tF ?_ | refine Rt.os ?_ | refine Rt.clS ?_ | refine Rt.jmN ?_ | refine Rt.jbN ?_ | refine Rt.jbE ?_)) | ((with_reducible (first | apply Rt.ld0 | apply Rt.ld1 | apply Rt.ld2 | apply Rt.ld3 | apply Rt.ld4 | apply Rt.ld5)); first | assumption | exact Lc.kp (by assumption) (by assumption)) | ((with_reducible apply Rt.ol); first | assumption | exact cell_kp (by assumption) (by assumption)) | ((with_reducible apply Rt.ckR); focus ((repeat (first | (with_reducible (first | refine Rt.fin ?_ | refine Rt.tL ?_ | refine Rt.tI ?_ | refine Rt.tB ?_ | refine Rt.tS ?_ | refine Rt.tP ?_ | refine Rt.tD ?_ | refine Rt.tM ?_ | refine Rt.tC ?_ | refine Rt.tN ?_ | refine Rt.tA ?_ | refine Rt.tG ?_ | refine Rt.tF ?_ | refine Rt.os ?_ | refine Rt.clS ?_ | refine Rt.jmN ?_ | refine Rt.jbN ?_ | refine Rt.jbE ?_)) | ((with_reducible (first | apply Rt.ld0 | apply Rt.ld1 | apply Rt.ld2 | apply Rt.ld3 | apply Rt.ld4 | apply Rt.ld5)); first | assumption | exact Lc.kp (by assumption) (by assumption)) | ((with_reducible apply Rt.ol); first | assumption | exact cell_kp (by assumption) (by assumption)))); exact Rt.some' rfl))))
      refine one hkd fun a B m d C k e hb _ c0 _ => Rt.ol c0 (Rt.tL ?_)
      have hbl := hb.len
      obtain ⟨_, e1, B3, m3, d3, w3, rfl, o3, r3, k3⟩ := Get_spec (n := n) (by omega) (hH.kp hkd) hS.fit hb (by omega) (hst q hqm) hql.2
      refine Rt.cl e1 ?_
      (repeat (first | (with_reducible (first | refine Rt.fin ?_ | refine Rt.tL ?_ | refine Rt.tI ?_ | refine Rt.tB ?_ | refine Rt.tS ?_ | refine Rt.tP ?_ | refine Rt.tD ?_ | refine Rt.tM ?_ | refine Rt.tC ?_ | refine Rt.tN ?_ | refine Rt.tA ?_ | refine Rt.tG ?_ | refine Rt.tF ?_ | refine Rt.os ?_ | refine Rt.clS ?_ | refine Rt.jmN ?_ | refine Rt.jbN ?_ | refine Rt.jbE ?_)) | ((with_reducible (first | apply Rt.ld0 | apply Rt.ld1 | apply Rt.ld2 | apply Rt.ld3 | apply Rt.ld4 | apply Rt.ld5)); first | assumption | exact Lc.kp (by assumption) (by assumption)) | ((with_reducible apply Rt.ol); first | assumption | exact cell_kp (by assumption) (by assumption)) | ((with_reducible apply Rt.ckR); focus ((repeat (first | (with_reducible (first | refine Rt.fin ?_ | refine Rt.tL ?_ | refine Rt.tI ?_ | refine Rt.tB ?_ | refine Rt.tS ?_ | refine Rt.tP ?_ | refine Rt.tD ?_ | refine Rt.tM ?_ | refine Rt.tC ?_ | refine Rt.tN ?_ | refine Rt.tA ?_ | refine Rt.tG ?_ | refine Rt.tF ?_ | refine Rt.os ?_ | refine Rt.clS ?_ | refine Rt.jmN ?_ | refine Rt.jbN ?_ | refine Rt.jbE ?_)) | ((with_reducible (first | apply Rt.ld0 | apply Rt.ld1 | apply Rt.ld2 | apply Rt.ld3 | apply Rt.ld4 | apply Rt.ld5)); first | assumption | exact Lc.kp (by assumption) (by assumption)) | ((with_reducible apply Rt.ol); first | assumption | exact cell_kp (by assumption) (by assumption)))); exact Rt.some' rfl))))
      have hk3 := hkd.tr k3
      have hk3d := hk3.dr
      refine Rt.cF rfl (Rt.str ((o3.bv r3).kp (Kp.rfl' w3).dr) ?_)
      refine one hk3d fun a B m d C k e _ hc _ c1 => Rt.ol c1 (Rt.tL (Rt.str hc ?_))
      refine Rt.cF (by simp) ?_
      refine Rt.cD (fun hpos => ?_) fun _ => Rt.some' ⟨w3.drew, rfl, hk3d⟩
      rw [i64_in ((i : Int) - 1) (by omega)]
      refine Rt.ixKV hA.sl hk3d (by omega) (by omega) fun q0 a0 B0 m0 d0 C0 k0 e0 eq0 hb0 _ c00 _ => Rt.ol c00 (Rt.tL (Rt.str (hb0.kp hk3d) ?_))
      refine one hk3d fun a B m d C k e hb _ c0 _ => Rt.ol c0 (Rt.tL (Rt.str hb ?_))
      have hlt : Op.bytesLess (bts q0.1) (bts q.1) = true := by
        rw [show ((i : Int) - 1).toNat = i - 1 by omega] at eq0
        obtain ⟨h1, h2⟩ := List.getElem?_eq_some_iff.1 eq0
        obtain ⟨h3, h4⟩ := List.getElem?_eq_some_iff.1 hqi
        have := List.pairwise_iff_getElem.1 hup (i - 1) i h1 h3 (by omega)
        rw [h2, h4] at this
        exact this
      exact Rt.cF (by rw [bl_str, hlt]; rfl) (Rt.some' ⟨w3.drew, rfl, hk3d⟩)
    · rintro _ ⟨w2, rfl, hk2⟩
      refine .inl ⟨.inl rfl, ?_⟩
      dsimp only
      (repeat (first | (with_reducible (first | refine Rt.fin ?_ | refine Rt.tL ?_ | refine Rt.tI ?_ | refine Rt.tB ?_ | refine Rt.tS ?_ | refine Rt.tP ?_ | refine Rt.tD ?_ | refine Rt.tM ?_ | refine Rt.tC ?_ | refine Rt.tN ?_ | refine Rt.tA ?_ | refine Rt.tG ?_ | refine Rt.tF ?_ | refine Rt.os ?_ | refine Rt.clS ?_ | refine Rt.jmN ?_ | refine Rt.jbN ?_ | refine Rt.jbE ?_)) | ((with_reducible (first | apply Rt.ld0 | apply Rt.ld1 | apply Rt.ld2 | apply Rt.ld3 | apply Rt.ld4 | apply Rt.ld5)); first | assumption | exact Lc.kp (by assumption) (by assumption)) | ((with_reducible apply Rt.ol); first | assumption | exact cell_kp (by assumption) (by assumption)) | ((with_reducible apply Rt.ckR); focus ((repeat (first | (with_reducible (first | refine Rt.fin ?_ | refine Rt.tL ?_ | refine Rt.tI ?_ | refine Rt.tB ?_ | refine Rt.tS ?_ | refine Rt.tP ?_ | refine Rt.tD ?_ | refine Rt.tM ?_ | refine Rt.tC ?_ | refine Rt.tN ?_ | refine Rt.tA ?_ | refine Rt.tG ?_ | refine Rt.tF ?_ | refine Rt.os ?_ | refine Rt.clS ?_ | refine Rt.jmN ?_ | refine Rt.jbN ?_ | refine Rt.jbE ?_)) | ((with_reducible (first | apply Rt.ld0 | apply Rt.ld1 | apply Rt.ld2 | apply Rt.ld3 | apply Rt.ld4 | apply Rt.ld5)); first | assumption | exact Lc.kp (by assumption) (by assumption)) | ((with_reducible apply Rt.ol); first | assumption | exact cell_kp (by assumption) (by assumption)))); exact Rt.some' rfl))))
      rw [i64_in _ (by omega), show ((i : Int) + 1) = ((i + 1 : Nat) : Int) by omega]
      exact ih (i + 1) m w2 (by omega) (by omega) hk2
theorem Back_spec (hn : 2 ^ 63 < n) (hx : Ev opsEl w A l c X) {fA tA : Option Addr} {fl fc tl tc : Nat} (hf : Bv .u8 w fA fl fc fr) (ht : Bv .u8 w tA tl tc to) : Rt (butterylaw22_HistoryBack n [.slice A l c, .slice fA fl fc, .slice tA tl tc] w) (RB True w) := by
  have hxl := hx.len
  rw [butterylaw22_HistoryBack_eq]
  refine Rt.fin (Rt.cBt (alive_spec (n := n) (by omega)) trivial fun w1 k1 => Rt.cF rfl ?_)
  refine Rt.cD (fun _ => Rt.endB (by simp) k1) fun h15 => ?_
  obtain ⟨_, e, w2, rfl, k2, hH2⟩ := New_spec (n := n) (w := w1)
  refine Rt.cl e ?_
  (repeat (first | (with_reducible (first | refine Rt.fin ?_ | refine Rt.tL ?_ | refine Rt.tI ?_ | refine Rt.tB ?_ | refine Rt.tS ?_ | refine Rt.tP ?_ | refine Rt.tD ?_ | refine Rt.tM ?_ | refine Rt.tC ?_ | refine Rt.tN ?_ | refine Rt.tA ?_ | refine Rt.tG ?_ | refine Rt.tF ?_ | refine Rt.os ?_ | refine Rt.clS ?_ | refine Rt.jmN ?_ | refine Rt.jbN ?_ | refine Rt.jbE ?_)) | ((with_reducible (first | apply Rt.ld0 | apply Rt.ld1 | apply Rt.ld2 | apply Rt.ld3 | apply Rt.ld4 | apply Rt.ld5)); first | assumption | exact Lc.kp (by assumption) (by assumption)) | ((with_reducible apply Rt.ol); first | assumption | exact cell_kp (by assumption) (by assumption)) | ((with_reducible apply Rt.ckR); focus ((repeat (first | (with_reducible (first | refine Rt.fin ?_ | refine Rt.tL ?_ | refine Rt.tI ?_ | refine Rt.tB ?_ | refine Rt.tS ?_ | refine Rt.tP ?_ | refine Rt.tD ?_ | refine Rt.tM ?_ | refine Rt.tC ?_ | refine Rt.tN ?_ | refine Rt.tA ?_ | refine Rt.tG ?_ | refine Rt.tF ?_ | refine Rt.os ?_ | refine Rt.clS ?_ | refine Rt.jmN ?_ | refine Rt.jbN ?_ | refine Rt.jbE ?_)) | ((with_reducible (first | apply Rt.ld0 | apply Rt.ld1 | apply Rt.ld2 | apply Rt.ld3 | apply Rt.ld4 | apply Rt.ld5)); first | assumption | exact Lc.kp (by assumption) (by assumption)) | ((with_reducible apply Rt.ol); first | assumption | exact cell_kp (by assumption) (by assumption)))); exact Rt.some' rfl))))
  refine Rt.jb (Rt.mono (Back_l0 (n := n) (fA := fA) (fl := fl) (fc := fc) (tA := tA) (tl := tl) (tc := tc) (hx.kp k1) (by omega) hn l 0 n w2 (by omega) (by omega) k2 (Nat.le_refl _) k2.size (by simpa using hH2) (by simp)) ?_)
  rintro _ (⟨w3, rfl, k3, hH, hs⟩ | ⟨w3, rfl, k3⟩)
  · refine .inl ⟨.inr rfl, ?_⟩
    dsimp only
    (repeat (first | (with_reducible (first | refine Rt.fin ?_ | refine Rt.tL ?_ | refine Rt.tI ?_ | refine Rt.tB ?_ | refine Rt.tS ?_ | refine Rt.tP ?_ | refine Rt.tD ?_ | refine Rt.tM ?_ | refine Rt.tC ?_ | refine Rt.tN ?_ | refine Rt.tA ?_ | refine Rt.tG ?_ | refine Rt.tF ?_ | refine Rt.os ?_ | refine Rt.clS ?_ | refine Rt.jmN ?_ | refine Rt.jbN ?_ | refine Rt.jbE ?_)) | ((with_reducible (first | apply Rt.ld0 | apply Rt.ld1 | apply Rt.ld2 | apply Rt.ld3 | apply Rt.ld4 | apply Rt.ld5)); first | assumption | exact Lc.kp (by assumption) (by assumption)) | ((with_reducible apply Rt.ol); first | assumption | exact cell_kp (by assumption) (by assumption)) | ((with_reducible apply Rt.ckR); focus ((repeat (first | (with_reducible (first | refine Rt.fin ?_ | refine Rt.tL ?_ | refine Rt.tI ?_ | refine Rt.tB ?_ | refine Rt.tS ?_ | refine Rt.tP ?_ | refine Rt.tD ?_ | refine Rt.tM ?_ | refine Rt.tC ?_ | refine Rt.tN ?_ | refine Rt.tA ?_ | refine Rt.tG ?_ | refine Rt.tF ?_ | refine Rt.os ?_ | refine Rt.clS ?_ | refine Rt.jmN ?_ | refine Rt.jbN ?_ | refine Rt.jbE ?_)) | ((with_reducible (first | apply Rt.ld0 | apply Rt.ld1 | apply Rt.ld2 | apply Rt.ld3 | apply Rt.ld4 | apply Rt.ld5)); first | assumption | exact Lc.kp (by assumption) (by assumption)) | ((with_reducible apply Rt.ol); first | assumption | exact cell_kp (by assumption) (by assumption)))); exact Rt.some' rfl))))
    have hS : Small X := ⟨by omega, hs⟩
    have k03 := k1.tr k3
    obtain ⟨_, e, A4, m4, c4, w4, qs, rfl, k4, hT, o4⟩ := Scan_spec (n := n) (by omega) hH hS.fit hS.val hS.card (hf.kp k03) (ht.kp k03) false
    refine Rt.cl e ?_
    (repeat (first | (with_reducible (first | refine Rt.fin ?_ | refine Rt.tL ?_ | refine Rt.tI ?_ | refine Rt.tB ?_ | refine Rt.tS ?_ | refine Rt.tP ?_ | refine Rt.tD ?_ | refine Rt.tM ?_ | refine Rt.tC ?_ | refine Rt.tN ?_ | refine Rt.tA ?_ | refine Rt.tG ?_ | refine Rt.tF ?_ | refine Rt.os ?_ | refine Rt.clS ?_ | refine Rt.jmN ?_ | refine Rt.jbN ?_ | refine Rt.jbE ?_)) | ((with_reducible (first | apply Rt.ld0 | apply Rt.ld1 | apply Rt.ld2 | apply Rt.ld3 | apply Rt.ld4 | apply Rt.ld5)); first | assumption | exact Lc.kp (by assumption) (by assumption)) | ((with_reducible apply Rt.ol); first | assumption | exact cell_kp (by assumption) (by assumption)) | ((with_reducible apply Rt.ckR); focus ((repeat (first | (with_reducible (first | refine Rt.fin ?_ | refine Rt.tL ?_ | refine Rt.tI ?_ | refine Rt.tB ?_ | refine Rt.tS ?_ | refine Rt.tP ?_ | refine Rt.tD ?_ | refine Rt.tM ?_ | refine Rt.tC ?_ | refine Rt.tN ?_ | refine Rt.tA ?_ | refine Rt.tG ?_ | refine Rt.tF ?_ | refine Rt.os ?_ | refine Rt.clS ?_ | refine Rt.jmN ?_ | refine Rt.jbN ?_ | refine Rt.jbE ?_)) | ((with_reducible (first | apply Rt.ld0 | apply Rt.ld1 | apply Rt.ld2 | apply Rt.ld3 | apply Rt.ld4 | apply Rt.ld5)); first | assumption | exact Lc.kp (by assumption) (by assumption)) | ((with_reducible apply Rt.ol); first | assumption | exact cell_kp (by assumption) (by assumption)))); exact Rt.some' rfl))))
    have k04 := k03.tr k4
    obtain ⟨_, e, A5, m5, c5, w5, qs', rfl, k5, hT', o5⟩ := Scan_spec (n := n) (by omega) (hH.kp k4) hS.fit hS.val hS.card (hf.kp k04) (ht.kp k04) true
    obtain rfl := told_uniq hT hT'
    refine Rt.cl e ?_
    (repeat (first | (with_reducible (first | refine Rt.fin ?_ | refine Rt.tL ?_ | refine Rt.tI ?_ | refine Rt.tB ?_ | refine Rt.tS ?_ | refine Rt.tP ?_ | refine Rt.tD ?_ | refine Rt.tM ?_ | refine Rt.tC ?_ | refine Rt.tN ?_ | refine Rt.tA ?_ | refine Rt.tG ?_ | refine Rt.tF ?_ | refine Rt.os ?_ | refine Rt.clS ?_ | refine Rt.jmN ?_ | refine Rt.jbN ?_ | refine Rt.jbE ?_)) | ((with_reducible (first | apply Rt.ld0 | apply Rt.ld1 | apply Rt.ld2 | apply Rt.ld3 | apply Rt.ld4 | apply Rt.ld5)); first | assumption | exact Lc.kp (by assumption) (by assumption)) | ((with_reducible apply Rt.ol); first | assumption | exact cell_kp (by assumption) (by assumption)) | ((with_reducible apply Rt.ckR); focus ((repeat (first | (with_reducible (first | refine Rt.fin ?_ | refine Rt.tL ?_ | refine Rt.tI ?_ | refine Rt.tB ?_ | refine Rt.tS ?_ | refine Rt.tP ?_ | refine Rt.tD ?_ | refine Rt.tM ?_ | refine Rt.tC ?_ | refine Rt.tN ?_ | refine Rt.tA ?_ | refine Rt.tG ?_ | refine Rt.tF ?_ | refine Rt.os ?_ | refine Rt.clS ?_ | refine Rt.jmN ?_ | refine Rt.jbN ?_ | refine Rt.jbE ?_)) | ((with_reducible (first | apply Rt.ld0 | apply Rt.ld1 | apply Rt.ld2 | apply Rt.ld3 | apply Rt.ld4 | apply Rt.ld5)); first | assumption | exact Lc.kp (by assumption) (by assumption)) | ((with_reducible apply Rt.ol); first | assumption | exact cell_kp (by assumption) (by assumption)))); exact Rt.some' rfl))))
    have k05 := k04.tr k5
    have o4' : OwnE prEl 33 w4 w3.heap.size (.slice A4 m4 c4) (filt fr to qs) := o4
    have o5' : OwnE prEl 33 w5 w4.heap.size (.slice A5 m5 c5) (filt fr to qs).reverse := o5
    have e4 := o4'.ev.len
    have e5 := o5'.ev.len
    rw [List.length_reverse] at e5
    obtain rfl : m4 = m5 := by omega
    refine Rt.cN (fun _ => ?_) fun h => absurd rfl h
    have hqs : qs.length ≤ 511 := hS.card qs (List.pairwise_map.2 (hT.up.imp fun {a b} hab e => by unfold Lt at hab; rw [e, bl_irr] at hab; cases hab)) hT.mem
    have hfl : (filt fr to qs).length ≤ qs.length := List.length_filter_le ..
    refine Rt.jb (Rt.mono (Back_l1 (n := n) hn (o4'.ev.kp k5) o5'.ev (hf.kp k05) (ht.kp k05) ((hH.kp k4).kp k5) hS (by omega) (filt_up hT) (fun q hq => ?_) (fun q hq => (hT.mem q (List.mem_filter.1 hq).1).2) (fun q hq => ?_) m4 0 n w5 (by omega) (by omega) (Kp.rfl' w5)) ?_)
    · have := (List.mem_filter.1 hq).2
      simpa using this
    · have h2 := (hT.mem q (List.mem_filter.1 hq).1).2
      rcases stF_mem h2 with ⟨ops, h3, o, h4, h5, h6⟩ | h3
      · have := (hS.2 ops h3).2 o h4
        rw [h5, h6] at this
        omega
      · cases h3
    · rintro _ ⟨w6, rfl, k6⟩
      exact .inl ⟨.inr rfl, Rt.tN (Rt.endB (by simp) (k05.tr k6))⟩
  · exact .inr ⟨rfl, rfl, true, w3, rfl, by simp, k1.tr k3⟩
end
end Go.Proofs.Ytdcdgmiojlldaaa.Hi
