/- ClockRoom: the walk. -/
import Derived.Test.YtdnbpgakmbamoaaK8
namespace Go.Proofs.Ytdnbpgakmbamoaa.Ck
open Go Big Go.RowKit Go.IntWalk
set_option linter.unusedVariables false
set_option linter.unusedSimpArgs false
def intV (x : Int) : Value := .int .i64 x
/-- The law's own count of pins, in a frozen block. -/
structure Pn (w : World) (pb : Nat) (F : Nat → Prop) (pv : List Int) (G : Int → Int → Int) (T : Int) (i : Nat) : Prop where
  lc : Lc w pb (pv.map intV)
  len : pv.length = 16
  fr : F pb
  at_ : ∀ f p : Nat, f < 4 → p < 4 → pv[f * 4 + p]? = some (G f p)
  sum : pv.sum = T
  rng : ∀ z ∈ pv, 0 ≤ z ∧ z ≤ i
section
variable {α : Type} {Q : α → Prop} {n base cb pb N M i : Nat} {w w' w1 w0 : World} {S R F H : Nat → Prop} {s s' : Ca} {A B : Option Addr} {c l m d : Nat} {k r T : Int} {bs pv : List Int} {xs : List Act} {G : Int → Int → Int}
theorem Pn.gx (h : Pn w' pb F pv G T i) (hg : Gx (fun j => ¬ F j) w' w1) : Pn w1 pb F pv G T i := ⟨h.lc.gx hg fun h' => h' h.fr, h.len, h.fr, h.at_, h.sum, h.rng⟩
theorem Pn.kp (h : Pn w' pb F pv G T i) (hk : Kp w' w1) : Pn w1 pb F pv G T i := h.gx hk.gx
theorem Pn.wide (h : Pn w' pb F pv G T i) (hF : ∀ j, F j → H j) : Pn w' pb H pv G T i := ⟨h.lc, h.len, hF _ h.fr, h.at_, h.sum, h.rng⟩
theorem Pn.up (h : Pn w' pb F pv G T i) {i' : Nat} (hi : i ≤ i') : Pn w' pb F pv G T i' := ⟨h.lc, h.len, h.fr, h.at_, h.sum, fun z hz => by have := h.rng z hz; omega⟩
theorem sum_setI : ∀ {l : List Int} {i : Nat} {x y : Int}, l[i]? = some x → (l.set i y).sum = l.sum - x + y
  | [], i, x, y, h => by simp at h
  | z :: l, 0, x, y, h => by simp at h; subst h; rw [List.set_cons_zero, List.sum_cons, List.sum_cons]; omega
  | z :: l, i + 1, x, y, h => by
    rw [List.set_cons_succ, List.sum_cons, List.sum_cons, sum_setI (l := l) (by simpa using h)]; omega
theorem Pn.set (h : Pn w' pb F pv G T i) {f p : Nat} (hf : f < 4) (hp : p < 4) {dd : Int} (hl : Lc w1 pb ((pv.map intV).set (f * 4 + p) (intV (G f p + dd)))) (h0 : 0 ≤ G f p + dd) (h1 : G f p + dd ≤ ((i + 1 : Nat) : Int)) : Pn w1 pb F (pv.set (f * 4 + p) (G f p + dd)) (bumpG G f p dd) (T + dd) (i + 1) := by
  refine ⟨by rw [List.map_set]; exact hl, by rw [List.length_set, h.len], h.fr, fun f' p' hf' hp' => ?_, ?_, fun z hz => ?_⟩
  · unfold bumpG
    by_cases hk : (f' : Int) = f ∧ (p' : Int) = p
    · rw [if_pos hk]
      have e1 : f' = f := by omega
      have e2 : p' = p := by omega
      subst e1 e2
      rw [List.getElem?_set_self (by rw [h.len]; omega)]
    · rw [if_neg hk, List.getElem?_set_ne (by omega)]
      exact h.at_ f' p' hf' hp'
  · rw [sum_setI (h.at_ f p hf hp), h.sum]; omega
  · rcases List.mem_or_eq_of_mem_set hz with h' | h'
    · have := h.rng z h'; omega
    · subst h'; omega
theorem Pn.bnd (h : Pn w' pb F pv G T i) {f p : Nat} (hf : f < 4) (hp : p < 4) : 0 ≤ G f p ∧ G f p ≤ i := h.rng _ (List.mem_of_getElem? (h.at_ f p hf hp))
/-- One count. -/
theorem Rt.ixP (h : Pn w' pb F pv G T i) {f p : Nat} (hf : f < 4) (hp : p < 4) {g : Addr → Option α} (hg : Rt (g ⟨pb, f * 4 + p, none⟩) Q) : Rt (ixR ⟨pb, 0, none⟩ 4 (f : Int) 4 fun a => ixR a 4 (p : Int) 1 g) Q := by
  refine Rt.ixR2 (by omega) (by omega) (Rt.ixR2 (by omega) (by omega) ?_)
  have eidx : 0 + (f : Int).toNat * 4 + (p : Int).toNat * 1 = f * 4 + p := by omega
  rw [eidx]; exact hg
theorem Pn.cell (h : Pn w' pb F pv G T i) {f p : Nat} (hf : f < 4) (hp : p < 4) : (pv.map intV)[f * 4 + p]? = some (intV (G f p)) := by
  rw [List.getElem?_map, h.at_ f p hf hp]; rfl
theorem take_sum_le : ∀ (l : List Int) (q : Nat), (∀ z ∈ l, 0 ≤ z ∧ z ≤ i) → 0 ≤ (l.take q).sum ∧ (l.take q).sum ≤ (i : Int) * q
  | [], q, _ => by simp; exact Int.mul_nonneg (by omega) (by omega)
  | z :: l, 0, _ => by simp
  | z :: l, q + 1, h => by
    have h1 := h z List.mem_cons_self
    have h2 := take_sum_le l q fun y hy => h y (List.mem_cons_of_mem _ hy)
    rw [List.take_succ_cons, List.sum_cons]
    have e : (i : Int) * ((q + 1 : Nat) : Int) = i * q + i := by rw [show ((q + 1 : Nat) : Int) = q + 1 by omega, Int.mul_add, Int.mul_one]
    rw [e]
    generalize (i : Int) * (q : Int) = z' at *
    omega
theorem Room_l1 {cbp : Option Addr} {ii : Int} (h : Pn w' pb F pv G T i) (hi : i ≤ 1000) : ∀ (q x m : Nat), x + q = 16 → q < m →
    Rt (butterylaw14_ClockRoom.l1 n m r A l c cbp ⟨pb, 0, none⟩ ii (pv.take x).sum (x : Int) w') fun r' => r' = ⟨.exit 3, [.int .i64 r, .slice A l c, .pointer cbp, .pointer (some ⟨pb, 0, none⟩), .int .i64 ii, .int .i64 T], w'⟩ := by
  intro q
  induction q with
  | zero =>
    intro x m hx hm
    obtain ⟨m, rfl⟩ : ∃ m', m = m' + 1 := ⟨m - 1, by omega⟩
    rw [butterylaw14_ClockRoom.l1_succ, List.take_of_length_le (by rw [h.len]; omega), h.sum]
    exact Rt.cDF (by omega) (Rt.some' rfl)
  | succ q ih =>
    intro x m hx hm
    obtain ⟨m, rfl⟩ : ∃ m', m = m' + 1 := ⟨m - 1, by omega⟩
    rw [butterylaw14_ClockRoom.l1_succ]
    have e1 : IntKind.i64.wrap (Int.tdiv (x : Int) 4) = ((x / 4 : Nat) : Int) := by rw [Int.tdiv_eq_ediv_of_nonneg (by omega), i64_in _ (by omega)]; omega
    have e2 : Int.tmod (x : Int) 4 = ((x % 4 : Nat) : Int) := by rw [Int.tmod_eq_emod_of_nonneg (by omega)]; omega
    rw [e1, e2]
    have hf : x / 4 < 4 := by omega
    have hp : x % 4 < 4 := by omega
    have hxx : x / 4 * 4 + x % 4 = x := by omega
    refine Rt.cDT (by omega) (Rt.ixP h hf hp (Rt.ldb h.lc (h.cell hf hp) (Rt.tI ?_)))
    have hb := take_sum_le pv x h.rng
    have hb2 := h.bnd hf hp
    have hix : (i : Int) * x ≤ 1000 * 16 := Int.mul_le_mul (by omega) (by omega) (by omega) (by omega)
    have hat := h.at_ (x / 4) (x % 4) hf hp
    rw [hxx] at hat
    rw [i64_in _ (by omega), i64_in ((x : Int) + 1) (by omega), show ((x : Int) + 1) = ((x + 1 : Nat) : Int) by omega]
    have e3 : (pv.take x).sum + G ((x / 4 : Nat) : Int) ((x % 4 : Nat) : Int) = (pv.take (x + 1)).sum := by
      rw [List.take_add_one, hat, List.sum_append]; simp
    rw [e3]
    exact ih (x + 1) m (by omega) (by omega)
theorem Room_l0 (hx : Ev acEl w A l c xs) (hl : l ≤ 80) (hn : 2 ^ 60 < n) (hwb : w.heap.size ≤ pb) : ∀ (e i j : Nat) (w' : World) (s : Ca) (G : Int → Int → Int) (T : Int) (pv : List Int) (F : Nat → Prop), i + e = l → e < j → Fz w w' cb i s F → JR G T r s → Pn w' pb F pv G T i →
    Rt (butterylaw14_ClockRoom.l0 n j r A l c (some ⟨cb, 0, none⟩) ⟨pb, 0, none⟩ (i : Int) w') fun r => (∃ w1, r = ⟨.exit 0, [], w1⟩ ∧ Kp w w1) ∨ (∃ w1, r = ⟨.ret, [.bool true], w1⟩ ∧ Kp w w1) := by
  have hxl := hx.len
  intro e
  induction e with
  | zero =>
    intro i j w' s G T pv F hi hj hz hJ hP
    obtain ⟨j, rfl⟩ : ∃ j', j = j' + 1 := ⟨j - 1, by omega⟩
    rw [butterylaw14_ClockRoom.l0_succ]
    exact Rt.cDF (by omega) (Rt.some' (.inl ⟨w', rfl, hz.kp⟩))
  | succ e ih =>
    intro i j w' s G T pv F hi hj hz hJ hP
    obtain ⟨j, rfl⟩ : ∃ j', j = j' + 1 := ⟨j - 1, by omega⟩
    rw [butterylaw14_ClockRoom.l0_succ]
    have hkp := hz.kp
    refine Rt.cDT (by omega) (Rt.ixAc hx.sl (by omega) (by omega) fun y a B m d ey hb g0 g1 g2 g3 => ?_)
    rw [Int.toNat_natCast] at ey
    (repeat (first | (with_reducible (first | refine Rt.fin ?_ | refine Rt.tL ?_ | refine Rt.tI ?_ | refine Rt.tB ?_ | refine Rt.tS ?_ | refine Rt.tP ?_ | refine Rt.tD ?_ | refine Rt.tM ?_ | refine Rt.tC ?_ | refine Rt.tN ?_ | refine Rt.tA ?_ | refine Rt.tG ?_ | refine Rt.tF ?_ | refine Rt.os ?_ | refine Rt.clS ?_ | refine Rt.jmN ?_ | refine Rt.jbN ?_ | refine Rt.jbE ?_)) | ((with_reducible (first | apply Rt.ld0 | apply Rt.ld1 | apply Rt.ld2 | apply Rt.ld3 | apply Rt.ld4 | apply Rt.ld5)); first | assumption | exact Lc.kp (by assumption) (by assumption)) | ((with_reducible apply Rt.ol); first | assumption | exact cell_kp (by assumption) (by assumption)) | ((with_reducible apply Rt.ckR); focus ((repeat (first | (with_reducible (first | refine Rt.fin ?_ | refine Rt.tL ?_ | refine Rt.tI ?_ | refine Rt.tB ?_ | refine Rt.tS ?_ | refine Rt.tP ?_ | refine Rt.tD ?_ | refine Rt.tM ?_ | refine Rt.tC ?_ | refine Rt.tN ?_ | refine Rt.tA ?_ | refine Rt.tG ?_ | refine Rt.tF ?_ | refine Rt.os ?_ | refine Rt.clS ?_ | refine Rt.jmN ?_ | refine Rt.jbN ?_ | refine Rt.jbE ?_)) | ((with_reducible (first | apply Rt.ld0 | apply Rt.ld1 | apply Rt.ld2 | apply Rt.ld3 | apply Rt.ld4 | apply Rt.ld5)); first | assumption | exact Lc.kp (by assumption) (by assumption)) | ((with_reducible apply Rt.ol); first | assumption | exact cell_kp (by assumption) (by assumption)))); exact Rt.some' rfl))))
    refine Rt.al4 fun w1 l1 k1 s1 => ?_
    (repeat (first | (with_reducible (first | refine Rt.fin ?_ | refine Rt.tL ?_ | refine Rt.tI ?_ | refine Rt.tB ?_ | refine Rt.tS ?_ | refine Rt.tP ?_ | refine Rt.tD ?_ | refine Rt.tM ?_ | refine Rt.tC ?_ | refine Rt.tN ?_ | refine Rt.tA ?_ | refine Rt.tG ?_ | refine Rt.tF ?_ | refine Rt.os ?_ | refine Rt.clS ?_ | refine Rt.jmN ?_ | refine Rt.jbN ?_ | refine Rt.jbE ?_)) | ((with_reducible (first | apply Rt.ld0 | apply Rt.ld1 | apply Rt.ld2 | apply Rt.ld3 | apply Rt.ld4 | apply Rt.ld5)); first | assumption | exact Lc.kp (by assumption) (by assumption)) | ((with_reducible apply Rt.ol); first | assumption | exact cell_kp (by assumption) (by assumption)) | ((with_reducible apply Rt.ckR); focus ((repeat (first | (with_reducible (first | refine Rt.fin ?_ | refine Rt.tL ?_ | refine Rt.tI ?_ | refine Rt.tB ?_ | refine Rt.tS ?_ | refine Rt.tP ?_ | refine Rt.tD ?_ | refine Rt.tM ?_ | refine Rt.tC ?_ | refine Rt.tN ?_ | refine Rt.tA ?_ | refine Rt.tG ?_ | refine Rt.tF ?_ | refine Rt.os ?_ | refine Rt.clS ?_ | refine Rt.jmN ?_ | refine Rt.jbN ?_ | refine Rt.jbE ?_)) | ((with_reducible (first | apply Rt.ld0 | apply Rt.ld1 | apply Rt.ld2 | apply Rt.ld3 | apply Rt.ld4 | apply Rt.ld5)); first | assumption | exact Lc.kp (by assumption) (by assumption)) | ((with_reducible apply Rt.ol); first | assumption | exact cell_kp (by assumption) (by assumption)))); exact Rt.some' rfl))))
    have hbl := hb.len
    refine Rt.cD (fun hgt => Rt.some' (.inr ⟨w1, rfl, hz.kp.tr k1⟩)) fun hle => ?_
    obtain ⟨f, hf, ef⟩ := and3 y.file
    obtain ⟨p, hp, ep⟩ := and3 y.pos
    rw [ef, ep]
    obtain ⟨F1, eF1⟩ : ∃ F1 : Nat → Prop, F1 = fun j => F j ∨ w'.heap.size ≤ j ∧ j < w1.heap.size := ⟨_, rfl⟩
    have hz1 := hz.al k1
    rw [← eF1] at hz1
    have hP1 := (hP.kp k1).wide (H := F1) fun j hj => by rw [eF1]; exact .inl hj
    have hF1 : F1 w'.heap.size := by rw [eF1]; exact .inr ⟨Nat.le_refl _, s1⟩
    clear eF1
    generalize w'.heap.size = ab at *
    refine Rt.jmX (Rt.mono (Q' := fun q => ∃ w4 s4 G4 T4 pv4, q = ⟨.norm, [.int .i64 r, .slice A l c, pt cb, .pointer (some ⟨pb, 0, none⟩), .int .i64 (i : Int)], w4⟩ ∧ Fz w w4 cb (i + 1) s4 F1 ∧ JR G4 T4 r s4 ∧ Pn w4 pb F1 pv4 G4 T4 (i + 1)) ?_ ?_)
    · have hlen16 : ∀ {w2 : World} {F2 : Nat → Prop} {pv2 : List Int} {G2 : Int → Int → Int} {T2 : Int} {i2 : Nat}, Pn w2 pb F2 pv2 G2 T2 i2 → f * 4 + p < (pv2.map intV).length := fun h => by rw [List.length_map, h.len]; omega
      have hbd := hP1.bnd hf hp
      (repeat (first | (with_reducible (first | refine Rt.fin ?_ | refine Rt.tL ?_ | refine Rt.tI ?_ | refine Rt.tB ?_ | refine Rt.tS ?_ | refine Rt.tP ?_ | refine Rt.tD ?_ | refine Rt.tM ?_ | refine Rt.tC ?_ | refine Rt.tN ?_ | refine Rt.tA ?_ | refine Rt.tG ?_ | refine Rt.tF ?_ | refine Rt.os ?_ | refine Rt.clS ?_ | refine Rt.jmN ?_ | refine Rt.jbN ?_ | refine Rt.jbE ?_)) | ((with_reducible (first | apply Rt.ld0 | apply Rt.ld1 | apply Rt.ld2 | apply Rt.ld3 | apply Rt.ld4 | apply Rt.ld5)); first | assumption | exact Lc.kp (by assumption) (by assumption)) | ((with_reducible apply Rt.ol); first | assumption | exact cell_kp (by assumption) (by assumption)) | ((with_reducible apply Rt.ckR); focus ((repeat (first | (with_reducible (first | refine Rt.fin ?_ | refine Rt.tL ?_ | refine Rt.tI ?_ | refine Rt.tB ?_ | refine Rt.tS ?_ | refine Rt.tP ?_ | refine Rt.tD ?_ | refine Rt.tM ?_ | refine Rt.tC ?_ | refine Rt.tN ?_ | refine Rt.tA ?_ | refine Rt.tG ?_ | refine Rt.tF ?_ | refine Rt.os ?_ | refine Rt.clS ?_ | refine Rt.jmN ?_ | refine Rt.jbN ?_ | refine Rt.jbE ?_)) | ((with_reducible (first | apply Rt.ld0 | apply Rt.ld1 | apply Rt.ld2 | apply Rt.ld3 | apply Rt.ld4 | apply Rt.ld5)); first | assumption | exact Lc.kp (by assumption) (by assumption)) | ((with_reducible apply Rt.ol); first | assumption | exact cell_kp (by assumption) (by assumption)))); exact Rt.some' rfl))))
      refine Rt.cQ (fun e0 => ?_) fun e0 => Rt.cQ (fun e1 => ?_) fun e1 => Rt.cQ (fun e2 => ?_) fun e2 => Rt.cQ (fun e3 => ?_) fun e3 => ?_
      · refine hz1.get (f := (f : Int)) (p := (p : Int)) (by omega) hn fun B2 m2 d2 w2 b2 o2 z2 q2 => ?_
        have z2 := z2.less (G := F1) fun j hj => .inl hj
        have hP2 := hP1.gx q2
        have hP2d := hP2.kp (Kp.rfl' w2).dr
        (repeat (first | (with_reducible (first | refine Rt.fin ?_ | refine Rt.tL ?_ | refine Rt.tI ?_ | refine Rt.tB ?_ | refine Rt.tS ?_ | refine Rt.tP ?_ | refine Rt.tD ?_ | refine Rt.tM ?_ | refine Rt.tC ?_ | refine Rt.tN ?_ | refine Rt.tA ?_ | refine Rt.tG ?_ | refine Rt.tF ?_ | refine Rt.os ?_ | refine Rt.clS ?_ | refine Rt.jmN ?_ | refine Rt.jbN ?_ | refine Rt.jbE ?_)) | ((with_reducible (first | apply Rt.ld0 | apply Rt.ld1 | apply Rt.ld2 | apply Rt.ld3 | apply Rt.ld4 | apply Rt.ld5)); first | assumption | exact Lc.kp (by assumption) (by assumption)) | ((with_reducible apply Rt.ol); first | assumption | exact cell_kp (by assumption) (by assumption)) | ((with_reducible apply Rt.ckR); focus ((repeat (first | (with_reducible (first | refine Rt.fin ?_ | refine Rt.tL ?_ | refine Rt.tI ?_ | refine Rt.tB ?_ | refine Rt.tS ?_ | refine Rt.tP ?_ | refine Rt.tD ?_ | refine Rt.tM ?_ | refine Rt.tC ?_ | refine Rt.tN ?_ | refine Rt.tA ?_ | refine Rt.tG ?_ | refine Rt.tF ?_ | refine Rt.os ?_ | refine Rt.clS ?_ | refine Rt.jmN ?_ | refine Rt.jbN ?_ | refine Rt.jbE ?_)) | ((with_reducible (first | apply Rt.ld0 | apply Rt.ld1 | apply Rt.ld2 | apply Rt.ld3 | apply Rt.ld4 | apply Rt.ld5)); first | assumption | exact Lc.kp (by assumption) (by assumption)) | ((with_reducible apply Rt.ol); first | assumption | exact cell_kp (by assumption) (by assumption)))); exact Rt.some' rfl))))
        rcases hJ.get (f := (f : Int)) (p := (p : Int)) with ⟨h1, h2⟩ | ⟨h1, h2, h3, h4⟩
        · rw [h1]
          refine Rt.cT rfl (Rt.ixP hP2d hf hp (Rt.ldb hP2d.lc (hP2d.cell hf hp) (Rt.tI (Rt.ixP hP2d hf hp ?_))))
          rw [i64_in (G f p + 1) (by omega)]
          refine Rt.stb hP2d.lc (hlen16 hP2d) fun w3 l3 g3 => Rt.some' ⟨w3, _, _, _, _, rfl, (z2.kp' (Kp.rfl' w2).dr).loc g3 fun j hj => ?_, h2, hP2d.set hf hp l3 (by omega) (by omega)⟩
          have hj : j = pb := hj
          subst hj
          exact ⟨hP1.fr, hwb⟩
        · rw [h1]
          refine Rt.cF rfl (Rt.ixP hP2 hf hp (Rt.ldb hP2.lc (hP2.cell hf hp) (Rt.tI (Rt.cDF (by omega) ?_))))
          exact Rt.some' ⟨w2, _, _, _, _, rfl, z2, by rw [h2]; exact hJ, hP2.up (by omega)⟩
      · (repeat (first | (with_reducible (first | refine Rt.fin ?_ | refine Rt.tL ?_ | refine Rt.tI ?_ | refine Rt.tB ?_ | refine Rt.tS ?_ | refine Rt.tP ?_ | refine Rt.tD ?_ | refine Rt.tM ?_ | refine Rt.tC ?_ | refine Rt.tN ?_ | refine Rt.tA ?_ | refine Rt.tG ?_ | refine Rt.tF ?_ | refine Rt.os ?_ | refine Rt.clS ?_ | refine Rt.jmN ?_ | refine Rt.jbN ?_ | refine Rt.jbE ?_)) | ((with_reducible (first | apply Rt.ld0 | apply Rt.ld1 | apply Rt.ld2 | apply Rt.ld3 | apply Rt.ld4 | apply Rt.ld5)); first | assumption | exact Lc.kp (by assumption) (by assumption)) | ((with_reducible apply Rt.ol); first | assumption | exact cell_kp (by assumption) (by assumption)) | ((with_reducible apply Rt.ckR); focus ((repeat (first | (with_reducible (first | refine Rt.fin ?_ | refine Rt.tL ?_ | refine Rt.tI ?_ | refine Rt.tB ?_ | refine Rt.tS ?_ | refine Rt.tP ?_ | refine Rt.tD ?_ | refine Rt.tM ?_ | refine Rt.tC ?_ | refine Rt.tN ?_ | refine Rt.tA ?_ | refine Rt.tG ?_ | refine Rt.tF ?_ | refine Rt.os ?_ | refine Rt.clS ?_ | refine Rt.jmN ?_ | refine Rt.jbN ?_ | refine Rt.jbE ?_)) | ((with_reducible (first | apply Rt.ld0 | apply Rt.ld1 | apply Rt.ld2 | apply Rt.ld3 | apply Rt.ld4 | apply Rt.ld5)); first | assumption | exact Lc.kp (by assumption) (by assumption)) | ((with_reducible apply Rt.ol); first | assumption | exact cell_kp (by assumption) (by assumption)))); exact Rt.some' rfl))))
        refine hz1.put (f := (f : Int)) (p := (p : Int)) (by omega) hb (by omega) hn fun w2 z2 q2 => ?_
        have hP2 := hP1.gx q2
        have hP2d := hP2.kp (Kp.rfl' w2).dr
        (repeat (first | (with_reducible (first | refine Rt.fin ?_ | refine Rt.tL ?_ | refine Rt.tI ?_ | refine Rt.tB ?_ | refine Rt.tS ?_ | refine Rt.tP ?_ | refine Rt.tD ?_ | refine Rt.tM ?_ | refine Rt.tC ?_ | refine Rt.tN ?_ | refine Rt.tA ?_ | refine Rt.tG ?_ | refine Rt.tF ?_ | refine Rt.os ?_ | refine Rt.clS ?_ | refine Rt.jmN ?_ | refine Rt.jbN ?_ | refine Rt.jbE ?_)) | ((with_reducible (first | apply Rt.ld0 | apply Rt.ld1 | apply Rt.ld2 | apply Rt.ld3 | apply Rt.ld4 | apply Rt.ld5)); first | assumption | exact Lc.kp (by assumption) (by assumption)) | ((with_reducible apply Rt.ol); first | assumption | exact cell_kp (by assumption) (by assumption)) | ((with_reducible apply Rt.ckR); focus ((repeat (first | (with_reducible (first | refine Rt.fin ?_ | refine Rt.tL ?_ | refine Rt.tI ?_ | refine Rt.tB ?_ | refine Rt.tS ?_ | refine Rt.tP ?_ | refine Rt.tD ?_ | refine Rt.tM ?_ | refine Rt.tC ?_ | refine Rt.tN ?_ | refine Rt.tA ?_ | refine Rt.tG ?_ | refine Rt.tF ?_ | refine Rt.os ?_ | refine Rt.clS ?_ | refine Rt.jmN ?_ | refine Rt.jbN ?_ | refine Rt.jbE ?_)) | ((with_reducible (first | apply Rt.ld0 | apply Rt.ld1 | apply Rt.ld2 | apply Rt.ld3 | apply Rt.ld4 | apply Rt.ld5)); first | assumption | exact Lc.kp (by assumption) (by assumption)) | ((with_reducible apply Rt.ol); first | assumption | exact cell_kp (by assumption) (by assumption)))); exact Rt.some' rfl))))
        rcases hJ.put (n := n) (f := (f : Int)) (p := (p : Int)) (bs := y.b) with ⟨h1, h2⟩ | ⟨h1, h2, h3⟩
        · rw [h1]
          refine Rt.cT rfl (Rt.ixP hP2d hf hp (Rt.ldb hP2d.lc (hP2d.cell hf hp) (Rt.tI (Rt.ixP hP2d hf hp ?_))))
          rw [i64_in (G f p + 1) (by omega)]
          refine Rt.stb hP2d.lc (hlen16 hP2d) fun w3 l3 g3 => Rt.some' ⟨w3, _, _, _, _, rfl, (z2.kp' (Kp.rfl' w2).dr).loc g3 fun j hj => ?_, h2, hP2d.set hf hp l3 (by omega) (by omega)⟩
          have hj : j = pb := hj
          subst hj
          exact ⟨hP1.fr, hwb⟩
        · rw [h1]
          refine Rt.cF rfl (Rt.ixP hP2 hf hp (Rt.ldb hP2.lc (hP2.cell hf hp) (Rt.tI (Rt.cDF (by omega) ?_))))
          exact Rt.some' ⟨w2, _, _, _, _, rfl, z2, h2, hP2.up (by omega)⟩
      · have k1d : Kp w1 w1.drew := (Kp.rfl' w1).dr
        have hP1d := hP1.kp k1d
        refine (hz1.kp' k1d).rel (f := (f : Int)) (p := (p : Int)) hn fun w2 z2 q2 => ?_
        have hP2 := hP1d.gx q2
        have hP2d := hP2.kp (Kp.rfl' w2).dr
        (repeat (first | (with_reducible (first | refine Rt.fin ?_ | refine Rt.tL ?_ | refine Rt.tI ?_ | refine Rt.tB ?_ | refine Rt.tS ?_ | refine Rt.tP ?_ | refine Rt.tD ?_ | refine Rt.tM ?_ | refine Rt.tC ?_ | refine Rt.tN ?_ | refine Rt.tA ?_ | refine Rt.tG ?_ | refine Rt.tF ?_ | refine Rt.os ?_ | refine Rt.clS ?_ | refine Rt.jmN ?_ | refine Rt.jbN ?_ | refine Rt.jbE ?_)) | ((with_reducible (first | apply Rt.ld0 | apply Rt.ld1 | apply Rt.ld2 | apply Rt.ld3 | apply Rt.ld4 | apply Rt.ld5)); first | assumption | exact Lc.kp (by assumption) (by assumption)) | ((with_reducible apply Rt.ol); first | assumption | exact cell_kp (by assumption) (by assumption)) | ((with_reducible apply Rt.ckR); focus ((repeat (first | (with_reducible (first | refine Rt.fin ?_ | refine Rt.tL ?_ | refine Rt.tI ?_ | refine Rt.tB ?_ | refine Rt.tS ?_ | refine Rt.tP ?_ | refine Rt.tD ?_ | refine Rt.tM ?_ | refine Rt.tC ?_ | refine Rt.tN ?_ | refine Rt.tA ?_ | refine Rt.tG ?_ | refine Rt.tF ?_ | refine Rt.os ?_ | refine Rt.clS ?_ | refine Rt.jmN ?_ | refine Rt.jbN ?_ | refine Rt.jbE ?_)) | ((with_reducible (first | apply Rt.ld0 | apply Rt.ld1 | apply Rt.ld2 | apply Rt.ld3 | apply Rt.ld4 | apply Rt.ld5)); first | assumption | exact Lc.kp (by assumption) (by assumption)) | ((with_reducible apply Rt.ol); first | assumption | exact cell_kp (by assumption) (by assumption)))); exact Rt.some' rfl))))
        obtain ⟨h1, h2, h3⟩ := hJ.rel (f := (f : Int)) (p := (p : Int))
        refine Rt.ixP hP2 hf hp (Rt.ldb hP2.lc (hP2.cell hf hp) (Rt.tI (Rt.ckR (Rt.ldb hP1d.lc (hP1d.cell hf hp) (Rt.tI (Rt.some' rfl))) ?_)))
        rw [h1]
        have e1 : (!(decide (0 < G f p) == decide (G f p > 0))) = false := by simp
        refine Rt.cF e1 (Rt.ixP hP2 hf hp (Rt.ldb hP2.lc (hP2.cell hf hp) (Rt.tI (Rt.cD (fun hg => ?_) fun hg => ?_))))
        · refine Rt.ixP hP2d hf hp (Rt.ldb hP2d.lc (hP2d.cell hf hp) (Rt.tI (Rt.ixP hP2d hf hp ?_)))
          rw [i64_in (G f p - 1) (by omega), show G f p - 1 = G f p + -1 by omega]
          refine Rt.stb hP2d.lc (hlen16 hP2d) fun w3 l3 g3 => Rt.some' ⟨w3, _, _, _, _, rfl, ((z2.kp' (Kp.rfl' w2).dr).loc g3 fun j hj => ?_).up (by omega) (by omega), h2 hg, hP2d.set hf hp l3 (by omega) (by omega)⟩
          have hj : j = pb := hj
          subst hj
          exact ⟨hP1.fr, hwb⟩
        · exact Rt.some' ⟨w2, _, _, _, _, rfl, z2.up (by omega) (by omega), h3 hg, hP2.up (by omega)⟩
      · refine hz1.drop (f := (f : Int)) hn fun w2 z2 q2 => ?_
        (repeat (first | (with_reducible (first | refine Rt.fin ?_ | refine Rt.tL ?_ | refine Rt.tI ?_ | refine Rt.tB ?_ | refine Rt.tS ?_ | refine Rt.tP ?_ | refine Rt.tD ?_ | refine Rt.tM ?_ | refine Rt.tC ?_ | refine Rt.tN ?_ | refine Rt.tA ?_ | refine Rt.tG ?_ | refine Rt.tF ?_ | refine Rt.os ?_ | refine Rt.clS ?_ | refine Rt.jmN ?_ | refine Rt.jbN ?_ | refine Rt.jbE ?_)) | ((with_reducible (first | apply Rt.ld0 | apply Rt.ld1 | apply Rt.ld2 | apply Rt.ld3 | apply Rt.ld4 | apply Rt.ld5)); first | assumption | exact Lc.kp (by assumption) (by assumption)) | ((with_reducible apply Rt.ol); first | assumption | exact cell_kp (by assumption) (by assumption)) | ((with_reducible apply Rt.ckR); focus ((repeat (first | (with_reducible (first | refine Rt.fin ?_ | refine Rt.tL ?_ | refine Rt.tI ?_ | refine Rt.tB ?_ | refine Rt.tS ?_ | refine Rt.tP ?_ | refine Rt.tD ?_ | refine Rt.tM ?_ | refine Rt.tC ?_ | refine Rt.tN ?_ | refine Rt.tA ?_ | refine Rt.tG ?_ | refine Rt.tF ?_ | refine Rt.os ?_ | refine Rt.clS ?_ | refine Rt.jmN ?_ | refine Rt.jbN ?_ | refine Rt.jbE ?_)) | ((with_reducible (first | apply Rt.ld0 | apply Rt.ld1 | apply Rt.ld2 | apply Rt.ld3 | apply Rt.ld4 | apply Rt.ld5)); first | assumption | exact Lc.kp (by assumption) (by assumption)) | ((with_reducible apply Rt.ol); first | assumption | exact cell_kp (by assumption) (by assumption)))); exact Rt.some' rfl))))
        exact Rt.some' ⟨w2, _, _, _, _, rfl, z2.up (by omega) (by omega), JR.drop _ _ _ _ hJ, (hP1.gx q2).up (by omega)⟩
      · exact Rt.some' ⟨w1, _, _, _, _, rfl, hz1.up (by omega) (by omega), hJ, hP1.up (by omega)⟩
    rintro q ⟨w4, s4, G4, T4, pv4, rfl, z4, hJ4, hP4⟩
    refine .inl ⟨rfl, ?_⟩
    dsimp only
    (repeat (first | (with_reducible (first | refine Rt.fin ?_ | refine Rt.tL ?_ | refine Rt.tI ?_ | refine Rt.tB ?_ | refine Rt.tS ?_ | refine Rt.tP ?_ | refine Rt.tD ?_ | refine Rt.tM ?_ | refine Rt.tC ?_ | refine Rt.tN ?_ | refine Rt.tA ?_ | refine Rt.tG ?_ | refine Rt.tF ?_ | refine Rt.os ?_ | refine Rt.clS ?_ | refine Rt.jmN ?_ | refine Rt.jbN ?_ | refine Rt.jbE ?_)) | ((with_reducible (first | apply Rt.ld0 | apply Rt.ld1 | apply Rt.ld2 | apply Rt.ld3 | apply Rt.ld4 | apply Rt.ld5)); first | assumption | exact Lc.kp (by assumption) (by assumption)) | ((with_reducible apply Rt.ol); first | assumption | exact cell_kp (by assumption) (by assumption)) | ((with_reducible apply Rt.ckR); focus ((repeat (first | (with_reducible (first | refine Rt.fin ?_ | refine Rt.tL ?_ | refine Rt.tI ?_ | refine Rt.tB ?_ | refine Rt.tS ?_ | refine Rt.tP ?_ | refine Rt.tD ?_ | refine Rt.tM ?_ | refine Rt.tC ?_ | refine Rt.tN ?_ | refine Rt.tA ?_ | refine Rt.tG ?_ | refine Rt.tF ?_ | refine Rt.os ?_ | refine Rt.clS ?_ | refine Rt.jmN ?_ | refine Rt.jbN ?_ | refine Rt.jbE ?_)) | ((with_reducible (first | apply Rt.ld0 | apply Rt.ld1 | apply Rt.ld2 | apply Rt.ld3 | apply Rt.ld4 | apply Rt.ld5)); first | assumption | exact Lc.kp (by assumption) (by assumption)) | ((with_reducible apply Rt.ol); first | assumption | exact cell_kp (by assumption) (by assumption)))); exact Rt.some' rfl))))
    have hl1 := Room_l1 (n := n) (r := r) (A := A) (l := l) (c := c) (cbp := some ⟨cb, 0, none⟩) (ii := (i : Int)) hP4 (by omega) 16 0 n (by omega) (by omega)
    rw [List.take_zero] at hl1
    refine Rt.jb (Rt.mono hl1 ?_)
    rintro _ rfl
    refine .inl ⟨.inr rfl, ?_⟩
    dsimp only
    (repeat (first | (with_reducible (first | refine Rt.fin ?_ | refine Rt.tL ?_ | refine Rt.tI ?_ | refine Rt.tB ?_ | refine Rt.tS ?_ | refine Rt.tP ?_ | refine Rt.tD ?_ | refine Rt.tM ?_ | refine Rt.tC ?_ | refine Rt.tN ?_ | refine Rt.tA ?_ | refine Rt.tG ?_ | refine Rt.tF ?_ | refine Rt.os ?_ | refine Rt.clS ?_ | refine Rt.jmN ?_ | refine Rt.jbN ?_ | refine Rt.jbE ?_)) | ((with_reducible (first | apply Rt.ld0 | apply Rt.ld1 | apply Rt.ld2 | apply Rt.ld3 | apply Rt.ld4 | apply Rt.ld5)); first | assumption | exact Lc.kp (by assumption) (by assumption)) | ((with_reducible apply Rt.ol); first | assumption | exact cell_kp (by assumption) (by assumption)) | ((with_reducible apply Rt.ckR); focus ((repeat (first | (with_reducible (first | refine Rt.fin ?_ | refine Rt.tL ?_ | refine Rt.tI ?_ | refine Rt.tB ?_ | refine Rt.tS ?_ | refine Rt.tP ?_ | refine Rt.tD ?_ | refine Rt.tM ?_ | refine Rt.tC ?_ | refine Rt.tN ?_ | refine Rt.tA ?_ | refine Rt.tG ?_ | refine Rt.tF ?_ | refine Rt.os ?_ | refine Rt.clS ?_ | refine Rt.jmN ?_ | refine Rt.jbN ?_ | refine Rt.jbE ?_)) | ((with_reducible (first | apply Rt.ld0 | apply Rt.ld1 | apply Rt.ld2 | apply Rt.ld3 | apply Rt.ld4 | apply Rt.ld5)); first | assumption | exact Lc.kp (by assumption) (by assumption)) | ((with_reducible apply Rt.ol); first | assumption | exact cell_kp (by assumption) (by assumption)))); exact Rt.some' rfl))))
    refine Rt.cI (z4.used) fun w5 k5 => ?_
    have hu := hJ4.used
    refine Rt.cDF (by omega) ?_
    have z5 := z4.kp' k5
    refine Rt.cI (z5.pins hn) fun w6 k6 => ?_
    have z6 := z5.kp' k6
    rw [hJ4.tot]
    refine Rt.cN (fun _ => ?_) fun h => absurd rfl h
    rw [i64_in _ (by omega), show ((i : Int) + 1) = ((i + 1 : Nat) : Int) by omega]
    exact ih (i + 1) j w6 s4 G4 T4 pv4 F1 (by omega) (by omega) z6 hJ4 ((hP4.kp k5).kp k6)
theorem ClockRoom_spec {r : Int} (hx : Ev acEl w A l c xs) (hr : r < 2 ^ 63) (hn : 2 ^ 60 < n) : Rt (butterylaw14_ClockRoom n [.int .i64 r, .slice A l c] w) (RB True w) := by
  rw [butterylaw14_ClockRoom_eq]
  refine Rt.fin (Rt.cBt (alive_spec hn) trivial fun w1 k1 => Rt.cF rfl ?_)
  refine Rt.cD (fun _ => Rt.endB (by simp) k1) fun h1 => Rt.cD (fun _ => Rt.endB (by simp) k1) fun h2 => ?_
  obtain ⟨_, e, w2, rfl, k2, hc, z2⟩ := New_spec (base := w1.heap.size) (w := w1) (n := n) (r := r) (Nat.le_refl _)
  refine Rt.cl e ?_
  (repeat (first | (with_reducible (first | refine Rt.fin ?_ | refine Rt.tL ?_ | refine Rt.tI ?_ | refine Rt.tB ?_ | refine Rt.tS ?_ | refine Rt.tP ?_ | refine Rt.tD ?_ | refine Rt.tM ?_ | refine Rt.tC ?_ | refine Rt.tN ?_ | refine Rt.tA ?_ | refine Rt.tG ?_ | refine Rt.tF ?_ | refine Rt.os ?_ | refine Rt.clS ?_ | refine Rt.jmN ?_ | refine Rt.jbN ?_ | refine Rt.jbE ?_)) | ((with_reducible (first | apply Rt.ld0 | apply Rt.ld1 | apply Rt.ld2 | apply Rt.ld3 | apply Rt.ld4 | apply Rt.ld5)); first | assumption | exact Lc.kp (by assumption) (by assumption)) | ((with_reducible apply Rt.ol); first | assumption | exact cell_kp (by assumption) (by assumption)) | ((with_reducible apply Rt.ckR); focus ((repeat (first | (with_reducible (first | refine Rt.fin ?_ | refine Rt.tL ?_ | refine Rt.tI ?_ | refine Rt.tB ?_ | refine Rt.tS ?_ | refine Rt.tP ?_ | refine Rt.tD ?_ | refine Rt.tM ?_ | refine Rt.tC ?_ | refine Rt.tN ?_ | refine Rt.tA ?_ | refine Rt.tG ?_ | refine Rt.tF ?_ | refine Rt.os ?_ | refine Rt.clS ?_ | refine Rt.jmN ?_ | refine Rt.jbN ?_ | refine Rt.jbE ?_)) | ((with_reducible (first | apply Rt.ld0 | apply Rt.ld1 | apply Rt.ld2 | apply Rt.ld3 | apply Rt.ld4 | apply Rt.ld5)); first | assumption | exact Lc.kp (by assumption) (by assumption)) | ((with_reducible apply Rt.ol); first | assumption | exact cell_kp (by assumption) (by assumption)))); exact Rt.some' rfl))))
  refine Rt.al fun w3 l3 k3 s3 => ?_
  have z0 : Fz w1 w2 w1.heap.size 0 ⟨if 0 < r then r else 0, 0, [], 0⟩ (fun _ => False) := ⟨k2, ⟨_, fun z hz => ⟨by omega, by omega, fun h => h⟩, hc⟩, Ok.new (by omega), fun j h => h.elim⟩
  have z3 := z0.al k3
  have hP : Pn w3 w2.heap.size (fun j => False ∨ w2.heap.size ≤ j ∧ j < w3.heap.size) (List.replicate 16 0) (fun _ _ => 0) 0 0 :=
    ⟨l3, rfl, .inr ⟨Nat.le_refl _, s3⟩, fun f p hf hp => by rw [List.getElem?_replicate, if_pos (by omega)], by decide, fun z hz => by rw [(List.mem_replicate.1 hz).2]; decide⟩
  have hJ : JR (fun _ _ => 0) 0 r ⟨if 0 < r then r else 0, 0, [], 0⟩ := ⟨by show (if 0 < r then r else 0) = r; split <;> omega, by show (0 : Int) ≤ r; omega, by simp, fun f p => rfl, rfl, fun x hx => by cases hx⟩
  refine Rt.jb (Rt.mono (Room_l0 (r := r) (hx.kp k1) (by omega) hn k2.size l 0 n w3 _ _ _ _ _ (by omega) (by omega) z3 hJ hP) ?_)
  rintro r (⟨w4, rfl, k4⟩ | ⟨w4, rfl, k4⟩)
  · refine .inl ⟨.inr rfl, ?_⟩
    (repeat (first | (with_reducible (first | refine Rt.fin ?_ | refine Rt.tL ?_ | refine Rt.tI ?_ | refine Rt.tB ?_ | refine Rt.tS ?_ | refine Rt.tP ?_ | refine Rt.tD ?_ | refine Rt.tM ?_ | refine Rt.tC ?_ | refine Rt.tN ?_ | refine Rt.tA ?_ | refine Rt.tG ?_ | refine Rt.tF ?_ | refine Rt.os ?_ | refine Rt.clS ?_ | refine Rt.jmN ?_ | refine Rt.jbN ?_ | refine Rt.jbE ?_)) | ((with_reducible (first | apply Rt.ld0 | apply Rt.ld1 | apply Rt.ld2 | apply Rt.ld3 | apply Rt.ld4 | apply Rt.ld5)); first | assumption | exact Lc.kp (by assumption) (by assumption)) | ((with_reducible apply Rt.ol); first | assumption | exact cell_kp (by assumption) (by assumption)) | ((with_reducible apply Rt.ckR); focus ((repeat (first | (with_reducible (first | refine Rt.fin ?_ | refine Rt.tL ?_ | refine Rt.tI ?_ | refine Rt.tB ?_ | refine Rt.tS ?_ | refine Rt.tP ?_ | refine Rt.tD ?_ | refine Rt.tM ?_ | refine Rt.tC ?_ | refine Rt.tN ?_ | refine Rt.tA ?_ | refine Rt.tG ?_ | refine Rt.tF ?_ | refine Rt.os ?_ | refine Rt.clS ?_ | refine Rt.jmN ?_ | refine Rt.jbN ?_ | refine Rt.jbE ?_)) | ((with_reducible (first | apply Rt.ld0 | apply Rt.ld1 | apply Rt.ld2 | apply Rt.ld3 | apply Rt.ld4 | apply Rt.ld5)); first | assumption | exact Lc.kp (by assumption) (by assumption)) | ((with_reducible apply Rt.ol); first | assumption | exact cell_kp (by assumption) (by assumption)))); exact Rt.some' rfl))))
    exact Rt.endB (by simp) (k1.tr k4)
  · exact .inr ⟨rfl, rfl, true, w4, rfl, by simp, k1.tr k4⟩
end
end Go.Proofs.Ytdnbpgakmbamoaa.Ck
