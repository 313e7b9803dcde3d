/- Frames: lists are compared; the example of the document; what is put and what is read. -/
import Derived.Test.YtebcmkohnebgmaaDoorF6
namespace Go.Proofs.YtebcmkohnebgmaaDoor.Fr
open Go Big Go.RowKit Go.IntWalk Crc
set_option linter.unusedVariables false
set_option linter.unusedSimpArgs false
theorem conv : ConvB Tryd.prog 22 := fun a l c w => by kernel_rfl
section
variable {α : Type} {Q : α → Prop} {n m : Nat} {w w' w0 w1 : World} {A B C : Option Addr} {l c d base lo co at_ p tk : Nat} {k : Int} {x r out o zs s now : List Int} {rs acc xs ys : List (List Int)} {wi : Bool}
theorem Rt.ixB (hs : SlE byEl w A l xs) {i : Int} (h0 : 0 ≤ i) (h1 : i < l) {f : Addr → Option α}
    (h : ∀ x a B m d, xs[i.toNat]? = some x → Bv .u8 w B m d x → w.cell? a = some (.slice B m d) → Rt (f a) Q) : Rt (ixA A l i 1 f) Q := by
  refine Rt.ixe hs rfl h0 h1 fun x a us e1 _ e3 e4 => ?_
  obtain ⟨B, m, d, rfl, hv⟩ := e3
  have c0 := e4 0 _ rfl
  rw [Addr.add_zero'] at c0
  exact h x a B m d e1 hv c0
theorem Same_l0 (hx : Ev byEl w0 A l c xs) (hy : Ev byEl w0 B l d ys) (hl : l < 2 ^ 63) : ∀ (q i j : Nat) (w : World), i + q = l → q < j → Kp w0 w → xs.take i = ys.take i →
    Rt (butteryref6_SameLists.l0 n j A l c B l d (i : Int) w) fun r => Kp w0 r.w ∧ (r.ex = .exit 0 ∧ r.vals = [] ∧ xs = ys ∨ r.ex = .ret ∧ r.vals = [.bool false] ∧ xs ≠ ys) := by
  have hxl := hx.len
  have hyl := hy.len
  intro q
  induction q with
  | zero =>
    intro i j w hi hj hk he
    obtain ⟨j, rfl⟩ : ∃ j', j = j' + 1 := ⟨j - 1, by omega⟩
    rw [butteryref6_SameLists.l0_succ]
    rw [List.take_of_length_le (by omega), List.take_of_length_le (by omega)] at he
    exact Rt.cDF (by omega) (Rt.some' ⟨hk, .inl ⟨rfl, rfl, he⟩⟩)
  | succ q ih =>
    intro i j w hi hj hk he
    obtain ⟨j, rfl⟩ : ∃ j', j = j' + 1 := ⟨j - 1, by omega⟩
    rw [butteryref6_SameLists.l0_succ]
    have hkd := hk.dr
    refine Rt.cDT (by omega) (Rt.ixB hx.sl (by omega) (by omega) fun x a C m e ex hv ca => ?_)
    refine Rt.ol (cell_kp ca hkd) (Rt.tL (Rt.str (hv.kp hkd) ?_))
    refine Rt.ixB hy.sl (by omega) (by omega) fun y b D p f ey hv' cb => ?_
    refine Rt.ol (cell_kp cb hkd) (Rt.tL (Rt.str (hv'.kp hkd) ?_))
    rw [Int.toNat_natCast] at ex ey
    refine Rt.cSn hv.rng hv'.rng (fun h => ?_) fun h => ?_
    · subst h
      rw [i64_in _ (by omega), show ((i : Int) + 1) = ((i + 1 : Nat) : Int) by omega]
      exact ih (i + 1) j _ (by omega) (by omega) hkd (by rw [List.take_add_one, List.take_add_one, ex, ey, he])
    · exact Rt.some' ⟨hkd, .inr ⟨rfl, rfl, fun h' => by subst h'; rw [ex] at ey; injection ey with ey; exact h ey⟩⟩
theorem Same_spec (hn : 2 ^ 63 < n) (hx : Ev byEl w A l c xs) (hy : Ev byEl w B m d ys) : Rt (butteryref6_SameLists n [.slice A l c, .slice B m d] w) (RB (xs = ys) w) := by
  have hxl := hx.len
  have hyl := hy.len
  have hl : l < 2 ^ 63 := by
    have h1 := hx.cap
    have h2 := hx.max
    have h3 : maxLen < 2 ^ 63 := by decide
    omega
  rw [butteryref6_SameLists_eq]
  refine Rt.fin (Rt.cN (fun h => ?_) fun h => ?_)
  · have : m = l := by omega
    subst this
    refine Rt.jb (Rt.mono (Same_l0 (n := n) hx hy hl m 0 n w (by omega) (by omega) (Kp.rfl' w) (by simp)) ?_)
    rintro ⟨ex, vs, w1⟩ ⟨k1, ⟨h2, h3, h4⟩ | ⟨h2, h3, h4⟩⟩
    · dsimp only at k1 h2 h3; subst h2 h3
      refine .inl ⟨.inr rfl, ?_⟩
      (repeat (first | (with_reducible (first | refine Rt.fin ?_ | refine Rt.tL ?_ | refine Rt.tI ?_ | refine Rt.tB ?_ | refine Rt.tS ?_ | refine Rt.tP ?_ | refine Rt.tD ?_ | refine Rt.tM ?_ | refine Rt.tC ?_ | refine Rt.tN ?_ | refine Rt.tA ?_ | refine Rt.tG ?_ | refine Rt.tF ?_ | refine Rt.os ?_ | refine Rt.clS ?_ | refine Rt.jmN ?_ | refine Rt.jbN ?_ | refine Rt.jbE ?_)) | ((with_reducible (first | apply Rt.ld0 | apply Rt.ld1 | apply Rt.ld2 | apply Rt.ld3 | apply Rt.ld4 | apply Rt.ld5)); first | assumption | exact Lc.kp (by assumption) (by assumption)) | ((with_reducible apply Rt.ol); first | assumption | exact cell_kp (by assumption) (by assumption)) | ((with_reducible apply Rt.ckR); focus ((repeat (first | (with_reducible (first | refine Rt.fin ?_ | refine Rt.tL ?_ | refine Rt.tI ?_ | refine Rt.tB ?_ | refine Rt.tS ?_ | refine Rt.tP ?_ | refine Rt.tD ?_ | refine Rt.tM ?_ | refine Rt.tC ?_ | refine Rt.tN ?_ | refine Rt.tA ?_ | refine Rt.tG ?_ | refine Rt.tF ?_ | refine Rt.os ?_ | refine Rt.clS ?_ | refine Rt.jmN ?_ | refine Rt.jbN ?_ | refine Rt.jbE ?_)) | ((with_reducible (first | apply Rt.ld0 | apply Rt.ld1 | apply Rt.ld2 | apply Rt.ld3 | apply Rt.ld4 | apply Rt.ld5)); first | assumption | exact Lc.kp (by assumption) (by assumption)) | ((with_reducible apply Rt.ol); first | assumption | exact cell_kp (by assumption) (by assumption)))); exact Rt.some' rfl))))
      exact Rt.endB (by simpa using h4) k1
    · dsimp only at k1 h2 h3; subst h2 h3
      exact .inr ⟨rfl, rfl, false, w1, rfl, by simpa using h4, k1⟩
  · exact Rt.endB (by simp only [Bool.false_eq_true, false_iff]; intro h'; subst h'; omega) (Kp.rfl' w)
theorem Rt.callAll {x : Option (List Value × World)} {rs : List (List Int)} {d' : Nat} {cl : Int} (h : Rt x (RAll w0 rs d' cl)) {f : Option Addr → Nat → Nat → Int → Int → World → Option α}
    (hf : ∀ R rc w1, Ev byEl w1 R rs.length rc rs → Kp w0 w1 → Rt (f R rs.length rc (d' : Int) cl w1) Q) :
    Rt (Big.cl x fun vs w => tC vs fun v3 cs4 => tL v3 fun A5 l6 c7 => tC cs4 fun v8 cs9 => tI .i64 v8 fun n10 => tC cs9 fun v11 cs12 => tI .i64 v11 fun n13 => tN cs12 (f A5 l6 c7 n10 n13 w)) Q := by
  refine Rt.call h ?_
  rintro vs w1 ⟨R, rc, w1', hr, h1, h2⟩
  cases hr
  (repeat (first | (with_reducible (first | refine Rt.fin ?_ | refine Rt.tL ?_ | refine Rt.tI ?_ | refine Rt.tB ?_ | refine Rt.tS ?_ | refine Rt.tP ?_ | refine Rt.tD ?_ | refine Rt.tM ?_ | refine Rt.tC ?_ | refine Rt.tN ?_ | refine Rt.tA ?_ | refine Rt.tG ?_ | refine Rt.tF ?_ | refine Rt.os ?_ | refine Rt.clS ?_ | refine Rt.jmN ?_ | refine Rt.jbN ?_ | refine Rt.jbE ?_)) | ((with_reducible (first | apply Rt.ld0 | apply Rt.ld1 | apply Rt.ld2 | apply Rt.ld3 | apply Rt.ld4 | apply Rt.ld5)); first | assumption | exact Lc.kp (by assumption) (by assumption)) | ((with_reducible apply Rt.ol); first | assumption | exact cell_kp (by assumption) (by assumption)) | ((with_reducible apply Rt.ckR); focus ((repeat (first | (with_reducible (first | refine Rt.fin ?_ | refine Rt.tL ?_ | refine Rt.tI ?_ | refine Rt.tB ?_ | refine Rt.tS ?_ | refine Rt.tP ?_ | refine Rt.tD ?_ | refine Rt.tM ?_ | refine Rt.tC ?_ | refine Rt.tN ?_ | refine Rt.tA ?_ | refine Rt.tG ?_ | refine Rt.tF ?_ | refine Rt.os ?_ | refine Rt.clS ?_ | refine Rt.jmN ?_ | refine Rt.jbN ?_ | refine Rt.jbE ?_)) | ((with_reducible (first | apply Rt.ld0 | apply Rt.ld1 | apply Rt.ld2 | apply Rt.ld3 | apply Rt.ld4 | apply Rt.ld5)); first | assumption | exact Lc.kp (by assumption) (by assumption)) | ((with_reducible apply Rt.ol); first | assumption | exact cell_kp (by assumption) (by assumption)))); exact Rt.some' rfl))))
  exact hf R rc w1 h1 h2
theorem abc : IsLog sm 0 [[97, 98, 99]] (pc sm 1 [97, 98, 99]) [10] := by
  have h : IsPut sm 0 [97, 98, 99] (pc sm 1 [97, 98, 99]) := ⟨_, .last (by decide), rfl⟩
  have := IsLog.cons h .nil
  rw [List.append_nil, pc_len] at this
  exact this
theorem alive_spec (hn : 2 ^ 50 < n) : Rt (butterylaw7_alive n [] w) (RB True w) := by
  rw [butterylaw7_alive_eq]
  have r0 : Rd sm 0 [] false [] 0 [] 0 0 := Rd.whole hsm (IsLog.nil (sm := sm) (a := 0))
  have rl := Rd.whole hsm abc
  refine Rt.fin (Rt.callAll (All_spec (w := w) hn (nilB w) (by decide) r0) fun R rc w1 e1 k1 => ?_)
  refine Rt.lit conv [97, 98, 99] 3 rfl rfl (by decide) (by decide) fun A w2 b2 k2 => ?_
  (repeat (first | (with_reducible (first | refine Rt.fin ?_ | refine Rt.tL ?_ | refine Rt.tI ?_ | refine Rt.tB ?_ | refine Rt.tS ?_ | refine Rt.tP ?_ | refine Rt.tD ?_ | refine Rt.tM ?_ | refine Rt.tC ?_ | refine Rt.tN ?_ | refine Rt.tA ?_ | refine Rt.tG ?_ | refine Rt.tF ?_ | refine Rt.os ?_ | refine Rt.clS ?_ | refine Rt.jmN ?_ | refine Rt.jbN ?_ | refine Rt.jbE ?_)) | ((with_reducible (first | apply Rt.ld0 | apply Rt.ld1 | apply Rt.ld2 | apply Rt.ld3 | apply Rt.ld4 | apply Rt.ld5)); first | assumption | exact Lc.kp (by assumption) (by assumption)) | ((with_reducible apply Rt.ol); first | assumption | exact cell_kp (by assumption) (by assumption)) | ((with_reducible apply Rt.ckR); focus ((repeat (first | (with_reducible (first | refine Rt.fin ?_ | refine Rt.tL ?_ | refine Rt.tI ?_ | refine Rt.tB ?_ | refine Rt.tS ?_ | refine Rt.tP ?_ | refine Rt.tD ?_ | refine Rt.tM ?_ | refine Rt.tC ?_ | refine Rt.tN ?_ | refine Rt.tA ?_ | refine Rt.tG ?_ | refine Rt.tF ?_ | refine Rt.os ?_ | refine Rt.clS ?_ | refine Rt.jmN ?_ | refine Rt.jbN ?_ | refine Rt.jbE ?_)) | ((with_reducible (first | apply Rt.ld0 | apply Rt.ld1 | apply Rt.ld2 | apply Rt.ld3 | apply Rt.ld4 | apply Rt.ld5)); first | assumption | exact Lc.kp (by assumption) (by assumption)) | ((with_reducible apply Rt.ol); first | assumption | exact cell_kp (by assumption) (by assumption)))); exact Rt.some' rfl))))
  refine Rt.cO (Put_spec (size := 0) (out := pc sm 1 [97, 98, 99]) hn b2 (by decide) (by decide) ⟨_, .last (by decide), rfl⟩) fun B e w3 o3 k3 => ?_
  have hb3 : Bytes (pc sm 1 [97, 98, 99]) := pc_bytes (by decide) (by decide)
  refine Rt.callAll (All_spec (w := w3) hn (o3.bv hb3) (by rw [pc_len]; decide) rl) fun R2 rc2 w4 e4 k4 => ?_
  have hl : (pc sm 1 [97, 98, 99]).length = 10 := pc_len 1 _
  rw [hl]
  exact Rt.cT rfl (Rt.cT rfl (Rt.cT rfl (Rt.cT rfl (Rt.cT rfl (Rt.endB (by simp) (((k1.tr k2).tr k3).tr k4))))))
theorem Puts_spec {size : Int} (hn : 2 ^ 50 < n) (hb : Bv .u8 w B l d r) (hs : size < 2 ^ 63) : Rt (butterylaw7_FramePuts n [.int .i64 size, .slice B l d] w) (RB True w) := by
  obtain ⟨i, hT⟩ := slB
  have hrl := hb.len
  obtain ⟨out, hp⟩ := IsPut.total sm size.toNat r
  have hob := hp.bytes hb.rng
  rw [butterylaw7_FramePuts_eq]
  refine Rt.fin (Rt.cBt (alive_spec hn) trivial fun w1 k1 => Rt.cF rfl (Rt.cD (fun h => Rt.endB (by simp) k1) fun h => ?_))
  have k1d := k1.dr
  refine Rt.app0 hT (hb.kp k1d).sl hb.nil (by omega) fun C e w2 o2 k2 => ?_
  (repeat (first | (with_reducible (first | refine Rt.fin ?_ | refine Rt.tL ?_ | refine Rt.tI ?_ | refine Rt.tB ?_ | refine Rt.tS ?_ | refine Rt.tP ?_ | refine Rt.tD ?_ | refine Rt.tM ?_ | refine Rt.tC ?_ | refine Rt.tN ?_ | refine Rt.tA ?_ | refine Rt.tG ?_ | refine Rt.tF ?_ | refine Rt.os ?_ | refine Rt.clS ?_ | refine Rt.jmN ?_ | refine Rt.jbN ?_ | refine Rt.jbE ?_)) | ((with_reducible (first | apply Rt.ld0 | apply Rt.ld1 | apply Rt.ld2 | apply Rt.ld3 | apply Rt.ld4 | apply Rt.ld5)); first | assumption | exact Lc.kp (by assumption) (by assumption)) | ((with_reducible apply Rt.ol); first | assumption | exact cell_kp (by assumption) (by assumption)) | ((with_reducible apply Rt.ckR); focus ((repeat (first | (with_reducible (first | refine Rt.fin ?_ | refine Rt.tL ?_ | refine Rt.tI ?_ | refine Rt.tB ?_ | refine Rt.tS ?_ | refine Rt.tP ?_ | refine Rt.tD ?_ | refine Rt.tM ?_ | refine Rt.tC ?_ | refine Rt.tN ?_ | refine Rt.tA ?_ | refine Rt.tG ?_ | refine Rt.tF ?_ | refine Rt.os ?_ | refine Rt.clS ?_ | refine Rt.jmN ?_ | refine Rt.jbN ?_ | refine Rt.jbE ?_)) | ((with_reducible (first | apply Rt.ld0 | apply Rt.ld1 | apply Rt.ld2 | apply Rt.ld3 | apply Rt.ld4 | apply Rt.ld5)); first | assumption | exact Lc.kp (by assumption) (by assumption)) | ((with_reducible apply Rt.ol); first | assumption | exact cell_kp (by assumption) (by assumption)))); exact Rt.some' rfl))))
  have k12 := k1d.tr k2
  refine Rt.cO (Put_spec hn (o2.bv hb.rng) (by omega) hs hp) fun D f w3 o3 k3 => ?_
  have k13 := k12.tr k3
  refine Rt.str (o3.bv hob) ?_
  refine Rt.cO (RPut_spec hn (hb.kp k13) (by omega) hs hp) fun E g w4 o4 k4 => ?_
  refine Rt.ckR (Rt.str ((o3.bv hob).kp k4) (Rt.some' rfl)) (Rt.str (o4.bv hob) ?_)
  exact Rt.endB (by rw [str_eq hob hob]; simp) (k13.tr k4)
theorem Reads_spec (hn' : 2 ^ 63 < n) (hb : Bv .u8 w B l d zs) : Rt (butterylaw7_FrameReads n [.slice B l d] w) (RB True w) := by
  obtain ⟨i, hT⟩ := slB
  have hrl := hb.len
  obtain ⟨rs, d', c, hr⟩ := Rd.total sm _ 0 zs false [] 0 (Nat.le_refl _)
  have hn : 2 ^ 50 < n := by omega
  rw [butterylaw7_FrameReads_eq]
  refine Rt.fin (Rt.cBt (alive_spec hn) trivial fun w1 k1 => Rt.cF rfl (Rt.cD (fun h => Rt.endB (by simp) k1) fun h => ?_))
  refine Rt.app0 hT (hb.kp k1).sl hb.nil (by omega) fun C e w2 o2 k2 => ?_
  (repeat (first | (with_reducible (first | refine Rt.fin ?_ | refine Rt.tL ?_ | refine Rt.tI ?_ | refine Rt.tB ?_ | refine Rt.tS ?_ | refine Rt.tP ?_ | refine Rt.tD ?_ | refine Rt.tM ?_ | refine Rt.tC ?_ | refine Rt.tN ?_ | refine Rt.tA ?_ | refine Rt.tG ?_ | refine Rt.tF ?_ | refine Rt.os ?_ | refine Rt.clS ?_ | refine Rt.jmN ?_ | refine Rt.jbN ?_ | refine Rt.jbE ?_)) | ((with_reducible (first | apply Rt.ld0 | apply Rt.ld1 | apply Rt.ld2 | apply Rt.ld3 | apply Rt.ld4 | apply Rt.ld5)); first | assumption | exact Lc.kp (by assumption) (by assumption)) | ((with_reducible apply Rt.ol); first | assumption | exact cell_kp (by assumption) (by assumption)) | ((with_reducible apply Rt.ckR); focus ((repeat (first | (with_reducible (first | refine Rt.fin ?_ | refine Rt.tL ?_ | refine Rt.tI ?_ | refine Rt.tB ?_ | refine Rt.tS ?_ | refine Rt.tP ?_ | refine Rt.tD ?_ | refine Rt.tM ?_ | refine Rt.tC ?_ | refine Rt.tN ?_ | refine Rt.tA ?_ | refine Rt.tG ?_ | refine Rt.tF ?_ | refine Rt.os ?_ | refine Rt.clS ?_ | refine Rt.jmN ?_ | refine Rt.jbN ?_ | refine Rt.jbE ?_)) | ((with_reducible (first | apply Rt.ld0 | apply Rt.ld1 | apply Rt.ld2 | apply Rt.ld3 | apply Rt.ld4 | apply Rt.ld5)); first | assumption | exact Lc.kp (by assumption) (by assumption)) | ((with_reducible apply Rt.ol); first | assumption | exact cell_kp (by assumption) (by assumption)))); exact Rt.some' rfl))))
  have k12 := k1.tr k2
  refine Rt.callAll (All_spec hn (o2.bv hb.rng) (by omega) hr) fun R rc w3 e3 k3 => ?_
  have k13 := k12.tr k3
  refine Rt.callAll (RAll_spec hn (hb.kp k13) (by omega) hr) fun R2 rc2 w4 e4 k4 => ?_
  have k14 := k13.tr k4
  refine Rt.cBt (Same_spec hn' (e3.kp k4) e4) rfl fun w5 k5 => ?_
  exact Rt.cT rfl (Rt.cT (by simp) (Rt.endB (by simp) (k14.tr k5)))
/-- A list of rows, none of them too long. -/
theorem Back_l0 (hn : 2 ^ 50 < n) (hx : Ev byEl w0 A l c xs) (hl : l ≤ 20) : ∀ (q i j : Nat) (C : Option Addr) (e : Nat) (b : List Int) (es : List Nat) (w : World), i + q = l → q < j → Kp w0 w → IsLog sm 0 (xs.take i) b es → b.length ≤ 1000 * i → Own .u8 5 w w0.heap.size (.slice C b.length e) b →
    Rt (butterylaw7_FrameBack.l0 n j A l c C b.length e (i : Int) w) fun r => Kp w0 r.w ∧ (r.ex = .ret ∧ r.vals = [.bool true] ∨ r.ex = .exit 0 ∧ ∃ C e b es, r.vals = [.slice A l c, .slice C (List.length b) e] ∧ IsLog sm 0 xs b es ∧ b.length ≤ 20000 ∧ Own .u8 5 r.w w0.heap.size (.slice C b.length e) b) := by
  obtain ⟨ib, hT⟩ := slB
  have hxl := hx.len
  intro q
  induction q with
  | zero =>
    intro i j C e b es w hi hj hk hL hb ho
    obtain ⟨j, rfl⟩ : ∃ j', j = j' + 1 := ⟨j - 1, by omega⟩
    rw [butterylaw7_FrameBack.l0_succ]
    rw [List.take_of_length_le (by omega)] at hL
    exact Rt.cDF (by omega) (Rt.some' ⟨hk, .inr ⟨rfl, C, e, b, es, rfl, hL, by omega, ho⟩⟩)
  | succ q ih =>
    intro i j C e b es w hi hj hk hL hb ho
    obtain ⟨j, rfl⟩ : ∃ j', j = j' + 1 := ⟨j - 1, by omega⟩
    rw [butterylaw7_FrameBack.l0_succ]
    refine Rt.cDT (by omega) (Rt.ixB hx.sl (by omega) (by omega) fun x a B m d ex hv ca => ?_)
    rw [Int.toNat_natCast] at ex
    refine Rt.ol (cell_kp ca hk) (Rt.tL (Rt.cD (fun h => Rt.some' ⟨hk, .inl ⟨rfl, rfl⟩⟩) fun h => ?_))
    refine Rt.ixB hx.sl (by omega) (by omega) fun x' a' B' m' d' ex' hv' ca' => ?_
    rw [Int.toNat_natCast] at ex'
    have exx := ex.symm.trans ex'
    injection exx with exx
    subst exx
    have hml := hv.len
    have hml' := hv'.len
    refine Rt.ol (cell_kp ca' hk) (Rt.tL ?_)
    obtain ⟨out, hp⟩ := IsPut.total sm b.length x
    have hol := hp.len
    refine Rt.cO (Put_spec (w := w) (size := (b.length : Int)) hn (hv'.kp hk) (by omega) (by omega) (by rw [Int.toNat_natCast]; exact hp)) fun D f w1 o1 k1 => ?_
    have k01 := hk.tr k1
    refine Rt.app hT (ho.kp k1) o1.sl.2 (o1.bv (hp.bytes hv.rng)).nil (by omega) k01.size fun E g w2 o2 hk2 _ s2 => ?_
    (repeat (first | (with_reducible (first | refine Rt.fin ?_ | refine Rt.tL ?_ | refine Rt.tI ?_ | refine Rt.tB ?_ | refine Rt.tS ?_ | refine Rt.tP ?_ | refine Rt.tD ?_ | refine Rt.tM ?_ | refine Rt.tC ?_ | refine Rt.tN ?_ | refine Rt.tA ?_ | refine Rt.tG ?_ | refine Rt.tF ?_ | refine Rt.os ?_ | refine Rt.clS ?_ | refine Rt.jmN ?_ | refine Rt.jbN ?_ | refine Rt.jbE ?_)) | ((with_reducible (first | apply Rt.ld0 | apply Rt.ld1 | apply Rt.ld2 | apply Rt.ld3 | apply Rt.ld4 | apply Rt.ld5)); first | assumption | exact Lc.kp (by assumption) (by assumption)) | ((with_reducible apply Rt.ol); first | assumption | exact cell_kp (by assumption) (by assumption)) | ((with_reducible apply Rt.ckR); focus ((repeat (first | (with_reducible (first | refine Rt.fin ?_ | refine Rt.tL ?_ | refine Rt.tI ?_ | refine Rt.tB ?_ | refine Rt.tS ?_ | refine Rt.tP ?_ | refine Rt.tD ?_ | refine Rt.tM ?_ | refine Rt.tC ?_ | refine Rt.tN ?_ | refine Rt.tA ?_ | refine Rt.tG ?_ | refine Rt.tF ?_ | refine Rt.os ?_ | refine Rt.clS ?_ | refine Rt.jmN ?_ | refine Rt.jbN ?_ | refine Rt.jbE ?_)) | ((with_reducible (first | apply Rt.ld0 | apply Rt.ld1 | apply Rt.ld2 | apply Rt.ld3 | apply Rt.ld4 | apply Rt.ld5)); first | assumption | exact Lc.kp (by assumption) (by assumption)) | ((with_reducible apply Rt.ol); first | assumption | exact cell_kp (by assumption) (by assumption)))); exact Rt.some' rfl))))
    have k02 := hk2 w0 k01 (Nat.le_refl _)
    have hl2 := o2.sl.1
    rw [hl2] at o2 ⊢
    rw [i64_in _ (by omega), show ((i : Int) + 1) = ((i + 1 : Nat) : Int) by omega]
    have hL2 := hL.snoc (r := x) (o := out) (by rw [Nat.zero_add]; exact hp)
    refine ih (i + 1) j E g (b ++ out) _ w2 (by omega) (by omega) k02 (by rw [List.take_add_one, ex]; exact hL2) (by rw [List.length_append]; omega) o2
theorem Back_spec (hn' : 2 ^ 63 < n) (hx : Ev byEl w A l c xs) : Rt (butterylaw7_FrameBack n [.slice A l c] w) (RB True w) := by
  have hn : 2 ^ 50 < n := by omega
  rw [butterylaw7_FrameBack_eq]
  refine Rt.fin (Rt.cBt (alive_spec hn) trivial fun w1 k1 => Rt.cF rfl (Rt.cD (fun h => Rt.endB (by simp) k1) fun h => ?_))
  refine Rt.jb (Rt.mono (Back_l0 (n := n) hn (hx.kp k1) (by omega) l 0 n none 0 [] [] w1 (by omega) (by omega) (Kp.rfl' w1) .nil (by simp) (Own.nil _ _)) ?_)
  rintro ⟨ex, vs, w2⟩ ⟨k2, ⟨h1, h2⟩ | ⟨h1, C, e, b, es, h2, hL, hb, ho⟩⟩
  · dsimp only at k2 h1 h2; subst h1 h2
    exact .inr ⟨rfl, rfl, true, w2, rfl, by simp, k1.tr k2⟩
  · dsimp only at k2 h1 h2 ho; subst h1 h2
    refine .inl ⟨.inr rfl, ?_⟩
    (repeat (first | (with_reducible (first | refine Rt.fin ?_ | refine Rt.tL ?_ | refine Rt.tI ?_ | refine Rt.tB ?_ | refine Rt.tS ?_ | refine Rt.tP ?_ | refine Rt.tD ?_ | refine Rt.tM ?_ | refine Rt.tC ?_ | refine Rt.tN ?_ | refine Rt.tA ?_ | refine Rt.tG ?_ | refine Rt.tF ?_ | refine Rt.os ?_ | refine Rt.clS ?_ | refine Rt.jmN ?_ | refine Rt.jbN ?_ | refine Rt.jbE ?_)) | ((with_reducible (first | apply Rt.ld0 | apply Rt.ld1 | apply Rt.ld2 | apply Rt.ld3 | apply Rt.ld4 | apply Rt.ld5)); first | assumption | exact Lc.kp (by assumption) (by assumption)) | ((with_reducible apply Rt.ol); first | assumption | exact cell_kp (by assumption) (by assumption)) | ((with_reducible apply Rt.ckR); focus ((repeat (first | (with_reducible (first | refine Rt.fin ?_ | refine Rt.tL ?_ | refine Rt.tI ?_ | refine Rt.tB ?_ | refine Rt.tS ?_ | refine Rt.tP ?_ | refine Rt.tD ?_ | refine Rt.tM ?_ | refine Rt.tC ?_ | refine Rt.tN ?_ | refine Rt.tA ?_ | refine Rt.tG ?_ | refine Rt.tF ?_ | refine Rt.os ?_ | refine Rt.clS ?_ | refine Rt.jmN ?_ | refine Rt.jbN ?_ | refine Rt.jbE ?_)) | ((with_reducible (first | apply Rt.ld0 | apply Rt.ld1 | apply Rt.ld2 | apply Rt.ld3 | apply Rt.ld4 | apply Rt.ld5)); first | assumption | exact Lc.kp (by assumption) (by assumption)) | ((with_reducible apply Rt.ol); first | assumption | exact cell_kp (by assumption) (by assumption)))); exact Rt.some' rfl))))
    have hxb : ∀ x ∈ xs, Bytes x := fun x hx' => by
      obtain ⟨i, hi, rfl⟩ := List.getElem_of_mem hx'
      have hxl := hx.len
      obtain ⟨_, y, us, e1, _, _, ⟨B, m, d, rfl, hv⟩, _⟩ := hx.sl.at_ (i := (i : Int)) (by omega) (by omega)
      rw [Int.toNat_natCast, List.getElem?_eq_getElem hi] at e1
      injection e1 with e1
      rw [e1]; exact hv.rng
    have k12 := k1.tr k2
    refine Rt.callAll (All_spec hn (ho.bv (hL.bytes hxb)) (by omega) (Rd.whole hsm hL)) fun R rc w3 e3 k3 => ?_
    refine Rt.cBt (Same_spec hn' ((hx.kp k12).kp k3) e3) rfl fun w4 k4 => ?_
    exact Rt.cT rfl (Rt.cT (by simp) (Rt.endB (by simp) ((k12.tr k3).tr k4)))
end
end Go.Proofs.YtebcmkohnebgmaaDoor.Fr
