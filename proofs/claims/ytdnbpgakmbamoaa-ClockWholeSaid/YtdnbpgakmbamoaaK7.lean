/- ClockWhole. -/
import Derived.Test.YtdnbpgakmbamoaaK6
namespace Go.Proofs.Ytdnbpgakmbamoaa.Ck
open Go Big Go.RowKit Go.IntWalk
set_option linter.unusedVariables false
set_option linter.unusedSimpArgs false
def okW (vs : List (List Int)) (x : Slo) : Prop := x.pins = 0 ∧ ∃ f p : Nat, f < 4 ∧ p < 4 ∧ x.file = f ∧ x.pos = p ∧ vs[f * 4 + p]? = some x.b
def WI (s : Ca) (vs : List (List Int)) : Prop := ∀ x ∈ s.l, okW vs x
def afterG (s : Ca) (f p : Int) : Ca := if (getB s f p).isSome then (relS (getS s f p) f p).1 else getS s f p
theorem WI.pin {s : Ca} {vs : List (List Int)} (h : WI s vs) : ∀ x ∈ s.l, 0 ≤ x.pins := fun x hx => by rw [(h x hx).1]; exact Int.le_refl _
theorem WI_G {s : Ca} {vs : List (List Int)} {f p : Int} (h : WI s vs) : WI (afterG s f p) vs ∧ (getB (afterG s f p) f p) = getB s f p := by
  rcases get_rel (f := f) (p := p) h.pin with ⟨e1, e2, _⟩ | ⟨i, x, hf, hx, e1, e2, e3, e4, e5⟩
  · have e : afterG s f p = s := by unfold afterG; rw [e1, if_neg (by simp), e2]
    rw [e]; exact ⟨h, rfl⟩
  · have e : afterG s f p = { s with l := s.l.set i { x with mark := true } } := by unfold afterG; rw [e3, if_pos (by simp), e5]
    rw [e]
    have hlt := (List.getElem?_eq_some_iff.1 hx).1
    refine ⟨fun y hy => ?_, ?_⟩
    · rcases mem_set hy with hy | rfl
      · exact h y hy
      · exact h x (List.mem_of_getElem? hx)
    · unfold getB
      have h1 : findI (s.l.set i { x with mark := true }) f p = some i := (findI_set (x' := { x with mark := true }) hx rfl rfl).trans hf
      show (findI (s.l.set i { x with mark := true }) f p).bind _ = _
      rw [h1, hf]
      show ((s.l.set i { x with mark := true })[i]?).map (·.b) = (s.l[i]?).map (·.b)
      rw [List.getElem?_set_self hlt, hx]; rfl
theorem WI_get {s : Ca} {vs : List (List Int)} {f p : Nat} {b : List Int} (h : WI s vs) (hb : getB s f p = some b) : vs[f * 4 + p]? = some b := by
  rcases get_rel (f := (f : Int)) (p := (p : Int)) h.pin with ⟨e1, _⟩ | ⟨i, x, hf, hx, e1, e2, e3, _⟩
  · rw [e1] at hb; cases hb
  · rw [e3] at hb
    injection hb with hb
    obtain ⟨_, f', p', _, _, q1, q2, q3⟩ := h x (List.mem_of_getElem? hx)
    have h1 : f' = f := by omega
    have h2 : p' = p := by omega
    subst h1 h2
    rw [q3, hb]
theorem okW_mark (vs : List (List Int)) (x : Slo) (m : Bool) (h : okW vs x) : okW vs { x with mark := m } := h
/-- What Put, and the release behind it, make. -/
theorem WI_put {n : Nat} {s : Ca} {vs : List (List Int)} {f p : Nat} {bs : List Int} (hv : vs.length = 16) (hf : f < 4) (hp : p < 4) (h : WI s vs) :
    ((getB s f p).isSome = true → (putS n s f p bs) = (getS s f p, true)) ∧
    ((getB s f p).isSome = false → (putS n s f p bs).2 = false → WI (putS n s f p bs).1 vs) ∧
    ((getB s f p).isSome = false → (putS n s f p bs).2 = true → WI (relS (putS n s f p bs).1 f p).1 (vs.set (f * 4 + p) bs)) := by
  have hfree : WI (freeS n s bs.length).1 vs := al_free (P := okW vs) (okW_mark vs) _ _ _ h
  refine ⟨fun h1 => by unfold putS; rw [if_pos h1], fun h1 h2 => ?_, fun h1 h2 => ?_⟩
  · unfold putS at h2 ⊢
    rw [if_neg (by rw [h1]; simp)] at h2 ⊢
    by_cases h3 : (freeS n s bs.length).2 = true
    · rw [if_pos h3] at h2; cases h2
    · rw [if_neg h3]; exact hfree
  · have hno : ∀ x ∈ s.l, ¬ (x.file = f ∧ x.pos = p) := by
      rcases get_rel (f := (f : Int)) (p := (p : Int)) h.pin with ⟨_, _, e3⟩ | ⟨i, x, _, hx, e1, e2, e3, _⟩
      · exact findI_none.1 e3
      · rw [e3] at h1; cases h1
    have hno' : ∀ x ∈ (freeS n s bs.length).1.l, ¬ (x.file = f ∧ x.pos = p) := al_free (P := fun x => ¬ (x.file = f ∧ x.pos = p)) (fun x m h => h) _ _ _ hno
    unfold putS at h2 ⊢
    rw [if_neg (by rw [h1]; simp)] at h2 ⊢
    by_cases h3 : (freeS n s bs.length).2 = true
    · rw [if_pos h3]
      generalize (freeS n s bs.length).1 = s1 at *
      have hfi : findI (s1.l ++ [(⟨f, p, bs, 1, true⟩ : Slo)]) f p = some s1.l.length := findI_app (findI_none.2 hno') rfl rfl
      have hat : (s1.l ++ [(⟨f, p, bs, 1, true⟩ : Slo)])[s1.l.length]? = some ⟨f, p, bs, 1, true⟩ := by simp
      have er : relS { s1 with used := s1.used + bs.length, l := s1.l ++ [(⟨f, p, bs, 1, true⟩ : Slo)] } f p = ({ s1 with used := s1.used + bs.length, l := (s1.l ++ [(⟨f, p, bs, 1, true⟩ : Slo)]).set s1.l.length ⟨f, p, bs, 0, true⟩ }, true) := by
        unfold relS
        show (match findI (s1.l ++ [(⟨f, p, bs, 1, true⟩ : Slo)]) f p with
          | some j => _
          | none => _) = _
        rw [hfi]
        simp only [hat]
        rw [if_neg (by decide)]
        rfl
      rw [er]
      intro x hx
      have hx : x ∈ (s1.l ++ [(⟨f, p, bs, 1, true⟩ : Slo)]).set s1.l.length ⟨f, p, bs, 0, true⟩ := hx
      rw [List.set_append_right _ _ (Nat.le_refl _), Nat.sub_self] at hx
      rcases List.mem_append.1 hx with hx | hx
      · obtain ⟨q0, f', p', q1, q2, q3, q4, q5⟩ := hfree x hx
        refine ⟨q0, f', p', q1, q2, q3, q4, ?_⟩
        have hne := hno' x hx
        rw [List.getElem?_set_ne]
        · exact q5
        · intro e
          exact hne ⟨by omega, by omega⟩
      · simp at hx
        subst hx
        exact ⟨rfl, f, p, hf, hp, rfl, rfl, by rw [List.getElem?_set_self (by omega)]⟩
    · rw [if_neg h3] at h2; cases h2
theorem WI.pins0 {vs : List (List Int)} : ∀ {l : List Slo}, (∀ x ∈ l, okW vs x) → pinsA l = 0
  | [], _ => rfl
  | x :: l, h => by
    have e : pinsA (x :: l) = x.pins + pinsA l := rfl
    rw [e, (h x List.mem_cons_self).1, WI.pins0 fun y hy => h y (List.mem_cons_of_mem _ hy)]; rfl
structure Wa (w : World) (wb : Nat) (F : Nat → Prop) (vs : List (List Int)) : Prop where
  lc : ∃ cs, Lc w wb cs ∧ cs.length = 16 ∧ ∀ (i : Nat) (v : Value) (x : List Int), cs[i]? = some v → vs[i]? = some x → ∃ B d, v = .slice B x.length d ∧ Own .u8 5 w 0 (.slice B x.length d) x ∧ (∀ z ∈ x, (Lit.int .u8 z).wf = true) ∧ ∀ j, On (.slice B x.length d) j → F j ∧ j ≠ wb
  len : vs.length = 16
  fr : F wb
section
variable {α : Type} {Q : α → Prop} {n base cb wb N M : Nat} {w w' w1 w0 : World} {S T R F G : Nat → Prop} {s s' : Ca} {A B : Option Addr} {c l m d : Nat} {k : Int} {bs : List Int} {xs : List Act} {vs : List (List Int)}
theorem Wa.gx (h : Wa w' wb F vs) (hg : Gx (fun j => ¬ F j) w' w1) : Wa w1 wb F vs := by
  obtain ⟨⟨cs, h1, h2, h3⟩, h4, h5⟩ := h
  refine ⟨⟨cs, h1.gx hg (fun h => h h5), h2, fun i v x hv hx => ?_⟩, h4, h5⟩
  obtain ⟨B, d, e, o, r, on⟩ := h3 i v x hv hx
  exact ⟨B, d, e, o.gx hg fun j hj hF => hF (on j hj).1, r, on⟩
theorem Wa.wide (h : Wa w' wb F vs) (hF : ∀ j, F j → G j) : Wa w' wb G vs := by
  obtain ⟨⟨cs, h1, h2, h3⟩, h4, h5⟩ := h
  refine ⟨⟨cs, h1, h2, fun i v x hv hx => ?_⟩, h4, hF _ h5⟩
  obtain ⟨B, d, e, o, r, on⟩ := h3 i v x hv hx
  exact ⟨B, d, e, o, r, fun j hj => ⟨hF j (on j hj).1, (on j hj).2⟩⟩
theorem Wa.kp (h : Wa w' wb F vs) (hk : Kp w' w1) : Wa w1 wb F vs := h.gx (hk.gx (S := fun j => ¬ F j))
set_option maxRecDepth 100000 in
theorem ac_open {H : Type} {enc : TypeId × Value → H} {W : World} {base : Nat} {spare : Nat → Bool} {held : Bool} (n : Nat) (cs : List Value) (y : DataW H × List MemPlace) (h : DataW.trod enc Try.prog W base spare held n 56 cs = some y) : ∃ x, acEl.rd W cs x := by
  obtain ⟨hl, hg⟩ := st_open Try.underlying56 h
  have hl : cs.length = 4 := hl
  match cs, hl with
  | [c0, c1, c2, c3], _ =>
    obtain ⟨_, _, g0⟩ := hg 0 _ rfl
    obtain ⟨_, _, g1⟩ := hg 1 _ rfl
    obtain ⟨_, _, g2⟩ := hg 2 _ rfl
    obtain ⟨_, _, g3⟩ := hg 3 _ rfl
    obtain ⟨k0, e0, r0⟩ := int_open (k := .i64) Try.underlying3 g0
    obtain ⟨k1, e1, r1⟩ := int_open (k := .i64) Try.underlying3 g1
    obtain ⟨k2, e2, r2⟩ := int_open (k := .i64) Try.underlying3 g2
    obtain ⟨A, l, c, xs, e3, b3⟩ := bv_open (e := 5) (k := .u8) Try.underlying30 Try.underlying5 (by kernel_rfl) g3
    have f0 : c0 = Value.int .i64 k0 := (List.cons.inj (show [c0] = [Value.int .i64 k0] from e0)).1
    have f1 : c1 = Value.int .i64 k1 := (List.cons.inj (show [c1] = [Value.int .i64 k1] from e1)).1
    have f2 : c2 = Value.int .i64 k2 := (List.cons.inj (show [c2] = [Value.int .i64 k2] from e2)).1
    have f3 : c3 = Value.slice A l c := (List.cons.inj (show [c3] = [Value.slice A l c] from e3)).1
    clear e0 e1 e2 e3
    subst f0 f1 f2 f3
    exact ⟨⟨k0, k1, k2, xs⟩, A, l, c, rfl, b3⟩
theorem Whole_l0 (hx : Ev acEl w A l c xs) (hl : l ≤ 60) (hn : 2 ^ 60 < n) (hwb : w.heap.size ≤ wb) : ∀ (e i j : Nat) (w' : World) (s : Ca) (vs : List (List Int)) (F : Nat → Prop), i + e = l → e < j → Fz w w' cb (3 * i) s F → Wa w' wb F vs → WI s vs →
    Rt (butterylaw14_ClockWhole.l0 n j A l c (some ⟨cb, 0, none⟩) ⟨wb, 0, none⟩ (i : Int) w') fun r => (∃ w1 s N F, r = ⟨.exit 0, [pt cb], w1⟩ ∧ Fz w w1 cb N s F ∧ pinsA s.l = 0) ∨ (∃ w1, r = ⟨.ret, [.bool true], w1⟩ ∧ Kp w w1) := by
  have hxl := hx.len
  intro e
  induction e with
  | zero =>
    intro i j w' s vs F hi hj hz hw hI
    obtain ⟨j, rfl⟩ : ∃ j', j = j' + 1 := ⟨j - 1, by omega⟩
    rw [butterylaw14_ClockWhole.l0_succ]
    exact Rt.cDF (by omega) (Rt.some' (.inl ⟨w', s, _, F, rfl, hz, WI.pins0 hI⟩))
  | succ e ih =>
    intro i j w' s vs F hi hj hz hw hI
    obtain ⟨j, rfl⟩ : ∃ j', j = j' + 1 := ⟨j - 1, by omega⟩
    rw [butterylaw14_ClockWhole.l0_succ]
    refine Rt.cDT (by omega) (Rt.jb (i := 1) ?_)
    have hkp := hz.kp
    refine Rt.ixAc hx.sl (by omega) (by omega) fun y a B m d ey hb g0 g1 g2 g3 => ?_
    rw [Int.toNat_natCast] at ey
    (repeat (first | (with_reducible (first | refine Rt.fin ?_ | refine Rt.tL ?_ | refine Rt.tI ?_ | refine Rt.tB ?_ | refine Rt.tS ?_ | refine Rt.tP ?_ | refine Rt.tD ?_ | refine Rt.tM ?_ | refine Rt.tC ?_ | refine Rt.tN ?_ | refine Rt.tA ?_ | refine Rt.tG ?_ | refine Rt.tF ?_ | refine Rt.os ?_ | refine Rt.clS ?_ | refine Rt.jmN ?_ | refine Rt.jbN ?_ | refine Rt.jbE ?_)) | ((with_reducible (first | apply Rt.ld0 | apply Rt.ld1 | apply Rt.ld2 | apply Rt.ld3 | apply Rt.ld4 | apply Rt.ld5)); first | assumption | exact Lc.kp (by assumption) (by assumption)) | ((with_reducible apply Rt.ol); first | assumption | exact cell_kp (by assumption) (by assumption)) | ((with_reducible apply Rt.ckR); focus ((repeat (first | (with_reducible (first | refine Rt.fin ?_ | refine Rt.tL ?_ | refine Rt.tI ?_ | refine Rt.tB ?_ | refine Rt.tS ?_ | refine Rt.tP ?_ | refine Rt.tD ?_ | refine Rt.tM ?_ | refine Rt.tC ?_ | refine Rt.tN ?_ | refine Rt.tA ?_ | refine Rt.tG ?_ | refine Rt.tF ?_ | refine Rt.os ?_ | refine Rt.clS ?_ | refine Rt.jmN ?_ | refine Rt.jbN ?_ | refine Rt.jbE ?_)) | ((with_reducible (first | apply Rt.ld0 | apply Rt.ld1 | apply Rt.ld2 | apply Rt.ld3 | apply Rt.ld4 | apply Rt.ld5)); first | assumption | exact Lc.kp (by assumption) (by assumption)) | ((with_reducible apply Rt.ol); first | assumption | exact cell_kp (by assumption) (by assumption)))); exact Rt.some' rfl))))
    refine Rt.al4 fun w1 l1 k1 s1 => ?_
    (repeat (first | (with_reducible (first | refine Rt.fin ?_ | refine Rt.tL ?_ | refine Rt.tI ?_ | refine Rt.tB ?_ | refine Rt.tS ?_ | refine Rt.tP ?_ | refine Rt.tD ?_ | refine Rt.tM ?_ | refine Rt.tC ?_ | refine Rt.tN ?_ | refine Rt.tA ?_ | refine Rt.tG ?_ | refine Rt.tF ?_ | refine Rt.os ?_ | refine Rt.clS ?_ | refine Rt.jmN ?_ | refine Rt.jbN ?_ | refine Rt.jbE ?_)) | ((with_reducible (first | apply Rt.ld0 | apply Rt.ld1 | apply Rt.ld2 | apply Rt.ld3 | apply Rt.ld4 | apply Rt.ld5)); first | assumption | exact Lc.kp (by assumption) (by assumption)) | ((with_reducible apply Rt.ol); first | assumption | exact cell_kp (by assumption) (by assumption)) | ((with_reducible apply Rt.ckR); focus ((repeat (first | (with_reducible (first | refine Rt.fin ?_ | refine Rt.tL ?_ | refine Rt.tI ?_ | refine Rt.tB ?_ | refine Rt.tS ?_ | refine Rt.tP ?_ | refine Rt.tD ?_ | refine Rt.tM ?_ | refine Rt.tC ?_ | refine Rt.tN ?_ | refine Rt.tA ?_ | refine Rt.tG ?_ | refine Rt.tF ?_ | refine Rt.os ?_ | refine Rt.clS ?_ | refine Rt.jmN ?_ | refine Rt.jbN ?_ | refine Rt.jbE ?_)) | ((with_reducible (first | apply Rt.ld0 | apply Rt.ld1 | apply Rt.ld2 | apply Rt.ld3 | apply Rt.ld4 | apply Rt.ld5)); first | assumption | exact Lc.kp (by assumption) (by assumption)) | ((with_reducible apply Rt.ol); first | assumption | exact cell_kp (by assumption) (by assumption)))); exact Rt.some' rfl))))
    have hbl := hb.len
    refine Rt.cD (fun hgt => Rt.some' (.inr ⟨rfl, .inr ⟨w1, rfl, hz.kp.tr k1⟩⟩)) fun hle => ?_
    obtain ⟨f, hf, ef⟩ := and3 y.file
    obtain ⟨p, hp, ep⟩ := and3 y.pos
    rw [ef, ep]
    obtain ⟨F1, eF1⟩ : ∃ F1 : Nat → Prop, F1 = fun j => F j ∨ w'.heap.size ≤ j ∧ j < w1.heap.size := ⟨_, rfl⟩
    have hz1 := hz.al k1
    rw [← eF1] at hz1
    have hw1 := (hw.kp k1).wide (G := F1) fun j hj => by rw [eF1]; exact .inl hj
    have hF1 : F1 w'.heap.size := by rw [eF1]; exact .inr ⟨Nat.le_refl _, s1⟩
    clear eF1
    generalize w'.heap.size = ab at *
    refine hz1.get (f := (f : Int)) (p := (p : Int)) (by omega) hn fun B2 m2 d2 w2 b2 o2 z2 q2 => ?_
    have z2 := z2.less (G := F1) fun j hj => .inl hj
    have hw2 := hw1.gx q2
    have l2 := l1.gx q2 (fun h => h hF1)
    (repeat (first | (with_reducible (first | refine Rt.fin ?_ | refine Rt.tL ?_ | refine Rt.tI ?_ | refine Rt.tB ?_ | refine Rt.tS ?_ | refine Rt.tP ?_ | refine Rt.tD ?_ | refine Rt.tM ?_ | refine Rt.tC ?_ | refine Rt.tN ?_ | refine Rt.tA ?_ | refine Rt.tG ?_ | refine Rt.tF ?_ | refine Rt.os ?_ | refine Rt.clS ?_ | refine Rt.jmN ?_ | refine Rt.jbN ?_ | refine Rt.jbE ?_)) | ((with_reducible (first | apply Rt.ld0 | apply Rt.ld1 | apply Rt.ld2 | apply Rt.ld3 | apply Rt.ld4 | apply Rt.ld5)); first | assumption | exact Lc.kp (by assumption) (by assumption)) | ((with_reducible apply Rt.ol); first | assumption | exact cell_kp (by assumption) (by assumption)) | ((with_reducible apply Rt.ckR); focus ((repeat (first | (with_reducible (first | refine Rt.fin ?_ | refine Rt.tL ?_ | refine Rt.tI ?_ | refine Rt.tB ?_ | refine Rt.tS ?_ | refine Rt.tP ?_ | refine Rt.tD ?_ | refine Rt.tM ?_ | refine Rt.tC ?_ | refine Rt.tN ?_ | refine Rt.tA ?_ | refine Rt.tG ?_ | refine Rt.tF ?_ | refine Rt.os ?_ | refine Rt.clS ?_ | refine Rt.jmN ?_ | refine Rt.jbN ?_ | refine Rt.jbE ?_)) | ((with_reducible (first | apply Rt.ld0 | apply Rt.ld1 | apply Rt.ld2 | apply Rt.ld3 | apply Rt.ld4 | apply Rt.ld5)); first | assumption | exact Lc.kp (by assumption) (by assumption)) | ((with_reducible apply Rt.ol); first | assumption | exact cell_kp (by assumption) (by assumption)))); exact Rt.some' rfl))))
    -- got, and let loose
    refine Rt.jm (Rt.mono (Q' := fun r => ∃ w3, r = ⟨.norm, [.slice A l c, pt cb, .pointer (some ⟨wb, 0, none⟩), .int .i64 (i : Int), .pointer (some ⟨ab, 0, none⟩), .int .i64 (f : Int), .int .i64 (p : Int), .bool (getB s f p).isSome], w3⟩ ∧ Fz w w3 cb (3 * i + 1) (afterG s f p) F1 ∧ Gx (fun j => ¬ F1 j) w2 w3) ?_ ?_)
    · refine Rt.cB (fun hbt => ?_) fun hbf => ?_
      · refine z2.rel (f := (f : Int)) (p := (p : Int)) hn fun w3 z3 q3 => ?_
        (repeat (first | (with_reducible (first | refine Rt.fin ?_ | refine Rt.tL ?_ | refine Rt.tI ?_ | refine Rt.tB ?_ | refine Rt.tS ?_ | refine Rt.tP ?_ | refine Rt.tD ?_ | refine Rt.tM ?_ | refine Rt.tC ?_ | refine Rt.tN ?_ | refine Rt.tA ?_ | refine Rt.tG ?_ | refine Rt.tF ?_ | refine Rt.os ?_ | refine Rt.clS ?_ | refine Rt.jmN ?_ | refine Rt.jbN ?_ | refine Rt.jbE ?_)) | ((with_reducible (first | apply Rt.ld0 | apply Rt.ld1 | apply Rt.ld2 | apply Rt.ld3 | apply Rt.ld4 | apply Rt.ld5)); first | assumption | exact Lc.kp (by assumption) (by assumption)) | ((with_reducible apply Rt.ol); first | assumption | exact cell_kp (by assumption) (by assumption)) | ((with_reducible apply Rt.ckR); focus ((repeat (first | (with_reducible (first | refine Rt.fin ?_ | refine Rt.tL ?_ | refine Rt.tI ?_ | refine Rt.tB ?_ | refine Rt.tS ?_ | refine Rt.tP ?_ | refine Rt.tD ?_ | refine Rt.tM ?_ | refine Rt.tC ?_ | refine Rt.tN ?_ | refine Rt.tA ?_ | refine Rt.tG ?_ | refine Rt.tF ?_ | refine Rt.os ?_ | refine Rt.clS ?_ | refine Rt.jmN ?_ | refine Rt.jbN ?_ | refine Rt.jbE ?_)) | ((with_reducible (first | apply Rt.ld0 | apply Rt.ld1 | apply Rt.ld2 | apply Rt.ld3 | apply Rt.ld4 | apply Rt.ld5)); first | assumption | exact Lc.kp (by assumption) (by assumption)) | ((with_reducible apply Rt.ol); first | assumption | exact cell_kp (by assumption) (by assumption)))); exact Rt.some' rfl))))
        refine Rt.some' ⟨w3, rfl, ?_, q3⟩
        unfold afterG
        rw [if_pos hbt]; exact z3
      · refine Rt.some' ⟨w2, rfl, ?_, Gx.rfl' _ _⟩
        unfold afterG
        rw [if_neg (by rw [hbf]; simp)]; exact z2
    rintro r ⟨w3, rfl, z3, q3⟩
    refine ⟨rfl, ?_⟩
    dsimp only
    have hw3 := hw2.gx q3
    have l3 := l2.gx q3 (fun h => h hF1)
    obtain ⟨hI3, hgb⟩ := WI_G (f := (f : Int)) (p := (p : Int)) hI
    rw [← hgb]
    generalize afterG s f p = s3 at *
    (repeat (first | (with_reducible (first | refine Rt.fin ?_ | refine Rt.tL ?_ | refine Rt.tI ?_ | refine Rt.tB ?_ | refine Rt.tS ?_ | refine Rt.tP ?_ | refine Rt.tD ?_ | refine Rt.tM ?_ | refine Rt.tC ?_ | refine Rt.tN ?_ | refine Rt.tA ?_ | refine Rt.tG ?_ | refine Rt.tF ?_ | refine Rt.os ?_ | refine Rt.clS ?_ | refine Rt.jmN ?_ | refine Rt.jbN ?_ | refine Rt.jbE ?_)) | ((with_reducible (first | apply Rt.ld0 | apply Rt.ld1 | apply Rt.ld2 | apply Rt.ld3 | apply Rt.ld4 | apply Rt.ld5)); first | assumption | exact Lc.kp (by assumption) (by assumption)) | ((with_reducible apply Rt.ol); first | assumption | exact cell_kp (by assumption) (by assumption)) | ((with_reducible apply Rt.ckR); focus ((repeat (first | (with_reducible (first | refine Rt.fin ?_ | refine Rt.tL ?_ | refine Rt.tI ?_ | refine Rt.tB ?_ | refine Rt.tS ?_ | refine Rt.tP ?_ | refine Rt.tD ?_ | refine Rt.tM ?_ | refine Rt.tC ?_ | refine Rt.tN ?_ | refine Rt.tA ?_ | refine Rt.tG ?_ | refine Rt.tF ?_ | refine Rt.os ?_ | refine Rt.clS ?_ | refine Rt.jmN ?_ | refine Rt.jbN ?_ | refine Rt.jbE ?_)) | ((with_reducible (first | apply Rt.ld0 | apply Rt.ld1 | apply Rt.ld2 | apply Rt.ld3 | apply Rt.ld4 | apply Rt.ld5)); first | assumption | exact Lc.kp (by assumption) (by assumption)) | ((with_reducible apply Rt.ol); first | assumption | exact cell_kp (by assumption) (by assumption)))); exact Rt.some' rfl))))
    -- the call
    have hb0 := hx
    refine Rt.jm (Rt.mono (Q' := fun r => ∃ w4 s4 vs4 F4, r = ⟨.norm, [.slice A l c, pt cb, .pointer (some ⟨wb, 0, none⟩), .int .i64 (i : Int), .int .i64 (f : Int), .int .i64 (p : Int)], w4⟩ ∧ Fz w w4 cb (3 * i + 2) s4 F4 ∧ Wa w4 wb F4 vs4 ∧ WI s4 vs4) ?_ ?_)
    · (repeat (first | (with_reducible (first | refine Rt.fin ?_ | refine Rt.tL ?_ | refine Rt.tI ?_ | refine Rt.tB ?_ | refine Rt.tS ?_ | refine Rt.tP ?_ | refine Rt.tD ?_ | refine Rt.tM ?_ | refine Rt.tC ?_ | refine Rt.tN ?_ | refine Rt.tA ?_ | refine Rt.tG ?_ | refine Rt.tF ?_ | refine Rt.os ?_ | refine Rt.clS ?_ | refine Rt.jmN ?_ | refine Rt.jbN ?_ | refine Rt.jbE ?_)) | ((with_reducible (first | apply Rt.ld0 | apply Rt.ld1 | apply Rt.ld2 | apply Rt.ld3 | apply Rt.ld4 | apply Rt.ld5)); first | assumption | exact Lc.kp (by assumption) (by assumption)) | ((with_reducible apply Rt.ol); first | assumption | exact cell_kp (by assumption) (by assumption)) | ((with_reducible apply Rt.ckR); focus ((repeat (first | (with_reducible (first | refine Rt.fin ?_ | refine Rt.tL ?_ | refine Rt.tI ?_ | refine Rt.tB ?_ | refine Rt.tS ?_ | refine Rt.tP ?_ | refine Rt.tD ?_ | refine Rt.tM ?_ | refine Rt.tC ?_ | refine Rt.tN ?_ | refine Rt.tA ?_ | refine Rt.tG ?_ | refine Rt.tF ?_ | refine Rt.os ?_ | refine Rt.clS ?_ | refine Rt.jmN ?_ | refine Rt.jbN ?_ | refine Rt.jbE ?_)) | ((with_reducible (first | apply Rt.ld0 | apply Rt.ld1 | apply Rt.ld2 | apply Rt.ld3 | apply Rt.ld4 | apply Rt.ld5)); first | assumption | exact Lc.kp (by assumption) (by assumption)) | ((with_reducible apply Rt.ol); first | assumption | exact cell_kp (by assumption) (by assumption)))); exact Rt.some' rfl))))
      refine Rt.cQ (fun e1 => ?_) fun e1 => ?_
      · (repeat (first | (with_reducible (first | refine Rt.fin ?_ | refine Rt.tL ?_ | refine Rt.tI ?_ | refine Rt.tB ?_ | refine Rt.tS ?_ | refine Rt.tP ?_ | refine Rt.tD ?_ | refine Rt.tM ?_ | refine Rt.tC ?_ | refine Rt.tN ?_ | refine Rt.tA ?_ | refine Rt.tG ?_ | refine Rt.tF ?_ | refine Rt.os ?_ | refine Rt.clS ?_ | refine Rt.jmN ?_ | refine Rt.jbN ?_ | refine Rt.jbE ?_)) | ((with_reducible (first | apply Rt.ld0 | apply Rt.ld1 | apply Rt.ld2 | apply Rt.ld3 | apply Rt.ld4 | apply Rt.ld5)); first | assumption | exact Lc.kp (by assumption) (by assumption)) | ((with_reducible apply Rt.ol); first | assumption | exact cell_kp (by assumption) (by assumption)) | ((with_reducible apply Rt.ckR); focus ((repeat (first | (with_reducible (first | refine Rt.fin ?_ | refine Rt.tL ?_ | refine Rt.tI ?_ | refine Rt.tB ?_ | refine Rt.tS ?_ | refine Rt.tP ?_ | refine Rt.tD ?_ | refine Rt.tM ?_ | refine Rt.tC ?_ | refine Rt.tN ?_ | refine Rt.tA ?_ | refine Rt.tG ?_ | refine Rt.tF ?_ | refine Rt.os ?_ | refine Rt.clS ?_ | refine Rt.jmN ?_ | refine Rt.jbN ?_ | refine Rt.jbE ?_)) | ((with_reducible (first | apply Rt.ld0 | apply Rt.ld1 | apply Rt.ld2 | apply Rt.ld3 | apply Rt.ld4 | apply Rt.ld5)); first | assumption | exact Lc.kp (by assumption) (by assumption)) | ((with_reducible apply Rt.ol); first | assumption | exact cell_kp (by assumption) (by assumption)))); exact Rt.some' rfl))))
        obtain ⟨P1, P2, P3⟩ := WI_put (n := n) (bs := y.b) hw3.len hf hp hI3
        refine z3.put (f := (f : Int)) (p := (p : Int)) (by omega) hb (by omega) hn fun w4 z4 q4 => ?_
        have hw4 := hw3.gx q4
        have l4 := l3.gx q4 (fun h => h hF1)
        (repeat (first | (with_reducible (first | refine Rt.fin ?_ | refine Rt.tL ?_ | refine Rt.tI ?_ | refine Rt.tB ?_ | refine Rt.tS ?_ | refine Rt.tP ?_ | refine Rt.tD ?_ | refine Rt.tM ?_ | refine Rt.tC ?_ | refine Rt.tN ?_ | refine Rt.tA ?_ | refine Rt.tG ?_ | refine Rt.tF ?_ | refine Rt.os ?_ | refine Rt.clS ?_ | refine Rt.jmN ?_ | refine Rt.jbN ?_ | refine Rt.jbE ?_)) | ((with_reducible (first | apply Rt.ld0 | apply Rt.ld1 | apply Rt.ld2 | apply Rt.ld3 | apply Rt.ld4 | apply Rt.ld5)); first | assumption | exact Lc.kp (by assumption) (by assumption)) | ((with_reducible apply Rt.ol); first | assumption | exact cell_kp (by assumption) (by assumption)) | ((with_reducible apply Rt.ckR); focus ((repeat (first | (with_reducible (first | refine Rt.fin ?_ | refine Rt.tL ?_ | refine Rt.tI ?_ | refine Rt.tB ?_ | refine Rt.tS ?_ | refine Rt.tP ?_ | refine Rt.tD ?_ | refine Rt.tM ?_ | refine Rt.tC ?_ | refine Rt.tN ?_ | refine Rt.tA ?_ | refine Rt.tG ?_ | refine Rt.tF ?_ | refine Rt.os ?_ | refine Rt.clS ?_ | refine Rt.jmN ?_ | refine Rt.jbN ?_ | refine Rt.jbE ?_)) | ((with_reducible (first | apply Rt.ld0 | apply Rt.ld1 | apply Rt.ld2 | apply Rt.ld3 | apply Rt.ld4 | apply Rt.ld5)); first | assumption | exact Lc.kp (by assumption) (by assumption)) | ((with_reducible apply Rt.ol); first | assumption | exact cell_kp (by assumption) (by assumption)))); exact Rt.some' rfl))))
        refine Rt.jm (Rt.mono (Q' := fun r => ∃ w5 F5 vs5, r = ⟨.norm, [.slice A l c, pt cb, .pointer (some ⟨wb, 0, none⟩), .int .i64 (i : Int), .int .i64 (f : Int), .int .i64 (p : Int), .bool (putS n s3 f p y.b).2], w5⟩ ∧ Fz w w5 cb (3 * i + 2) (putS n s3 f p y.b).1 F5 ∧ Wa w5 wb F5 vs5 ∧ ((getB s3 f p).isSome = false ∧ (putS n s3 f p y.b).2 = true → vs5 = vs.set (f * 4 + p) y.b) ∧ (¬ ((getB s3 f p).isSome = false ∧ (putS n s3 f p y.b).2 = true) → vs5 = vs)) ?_ ?_)
        · refine Rt.cB (fun hok => ?_) fun hok => ?_
          · refine Rt.cB (fun hth => ?_) fun hth => ?_
            · have hth : (getB s3 f p).isSome = false := by simpa using hth
              have l4d := l4.kp (Kp.rfl' w4).dr
              (repeat (first | (with_reducible (first | refine Rt.fin ?_ | refine Rt.tL ?_ | refine Rt.tI ?_ | refine Rt.tB ?_ | refine Rt.tS ?_ | refine Rt.tP ?_ | refine Rt.tD ?_ | refine Rt.tM ?_ | refine Rt.tC ?_ | refine Rt.tN ?_ | refine Rt.tA ?_ | refine Rt.tG ?_ | refine Rt.tF ?_ | refine Rt.os ?_ | refine Rt.clS ?_ | refine Rt.jmN ?_ | refine Rt.jbN ?_ | refine Rt.jbE ?_)) | ((with_reducible (first | apply Rt.ld0 | apply Rt.ld1 | apply Rt.ld2 | apply Rt.ld3 | apply Rt.ld4 | apply Rt.ld5)); first | assumption | exact Lc.kp (by assumption) (by assumption)) | ((with_reducible apply Rt.ol); first | assumption | exact cell_kp (by assumption) (by assumption)) | ((with_reducible apply Rt.ckR); focus ((repeat (first | (with_reducible (first | refine Rt.fin ?_ | refine Rt.tL ?_ | refine Rt.tI ?_ | refine Rt.tB ?_ | refine Rt.tS ?_ | refine Rt.tP ?_ | refine Rt.tD ?_ | refine Rt.tM ?_ | refine Rt.tC ?_ | refine Rt.tN ?_ | refine Rt.tA ?_ | refine Rt.tG ?_ | refine Rt.tF ?_ | refine Rt.os ?_ | refine Rt.clS ?_ | refine Rt.jmN ?_ | refine Rt.jbN ?_ | refine Rt.jbE ?_)) | ((with_reducible (first | apply Rt.ld0 | apply Rt.ld1 | apply Rt.ld2 | apply Rt.ld3 | apply Rt.ld4 | apply Rt.ld5)); first | assumption | exact Lc.kp (by assumption) (by assumption)) | ((with_reducible apply Rt.ol); first | assumption | exact cell_kp (by assumption) (by assumption)))); exact Rt.some' rfl))))
              obtain ⟨tB, hTB⟩ := slB
              have k4d := (z4.kp' (Kp.rfl' w4).dr).kp
              refine Rt.app0 hTB (hb.kp k4d).sl hb.nil (by omega) fun A6 c6 w6 o6 k6 => ?_
              (repeat (first | (with_reducible (first | refine Rt.fin ?_ | refine Rt.tL ?_ | refine Rt.tI ?_ | refine Rt.tB ?_ | refine Rt.tS ?_ | refine Rt.tP ?_ | refine Rt.tD ?_ | refine Rt.tM ?_ | refine Rt.tC ?_ | refine Rt.tN ?_ | refine Rt.tA ?_ | refine Rt.tG ?_ | refine Rt.tF ?_ | refine Rt.os ?_ | refine Rt.clS ?_ | refine Rt.jmN ?_ | refine Rt.jbN ?_ | refine Rt.jbE ?_)) | ((with_reducible (first | apply Rt.ld0 | apply Rt.ld1 | apply Rt.ld2 | apply Rt.ld3 | apply Rt.ld4 | apply Rt.ld5)); first | assumption | exact Lc.kp (by assumption) (by assumption)) | ((with_reducible apply Rt.ol); first | assumption | exact cell_kp (by assumption) (by assumption)) | ((with_reducible apply Rt.ckR); focus ((repeat (first | (with_reducible (first | refine Rt.fin ?_ | refine Rt.tL ?_ | refine Rt.tI ?_ | refine Rt.tB ?_ | refine Rt.tS ?_ | refine Rt.tP ?_ | refine Rt.tD ?_ | refine Rt.tM ?_ | refine Rt.tC ?_ | refine Rt.tN ?_ | refine Rt.tA ?_ | refine Rt.tG ?_ | refine Rt.tF ?_ | refine Rt.os ?_ | refine Rt.clS ?_ | refine Rt.jmN ?_ | refine Rt.jbN ?_ | refine Rt.jbE ?_)) | ((with_reducible (first | apply Rt.ld0 | apply Rt.ld1 | apply Rt.ld2 | apply Rt.ld3 | apply Rt.ld4 | apply Rt.ld5)); first | assumption | exact Lc.kp (by assumption) (by assumption)) | ((with_reducible apply Rt.ol); first | assumption | exact cell_kp (by assumption) (by assumption)))); exact Rt.some' rfl))))
              have z6 := (z4.kp' (Kp.rfl' w4).dr).al k6
              have hw6 := (hw4.kp ((Kp.rfl' w4).dr.tr k6)).wide (G := fun j => F1 j ∨ w4.drew.heap.size ≤ j ∧ j < w6.heap.size) fun j hj => .inl hj
              obtain ⟨⟨cs, c1, c2, c3⟩, v2, v3⟩ := id hw6
              refine Rt.ixR2 (by omega) (by omega) (Rt.ixR2 (by omega) (by omega) ?_)
              have eidx : 0 + (f : Int).toNat * 4 + (p : Int).toNat * 1 = f * 4 + p := by omega
              rw [eidx]
              refine Rt.stb c1 (by omega) fun w7 l7 g7 => Rt.some' ⟨w7, (fun j => F1 j ∨ w4.drew.heap.size ≤ j ∧ j < w6.heap.size), vs.set (f * 4 + p) y.b, rfl, ?_, ?_, fun _ => rfl, fun h => absurd ⟨hth, hok⟩ h⟩
              · exact z6.loc g7 fun j hj => by rw [hj]; exact ⟨v3, hwb⟩
              · refine ⟨⟨_, l7, by rw [List.length_set]; exact c2, fun q v x hv hxq => ?_⟩, by rw [List.length_set]; exact v2, v3⟩
                by_cases hq : f * 4 + p = q
                · subst hq
                  rw [List.getElem?_set_self (by omega)] at hv hxq
                  injection hv with hv
                  injection hxq with hxq
                  subst hv hxq
                  have ho := o6.lt
                  have hwl : wb < w4.drew.heap.size := by
                    obtain ⟨⟨cs', c1', _⟩, _⟩ := hw4
                    exact c1'.lt
                  refine ⟨A6, c6, by rw [hbl], ?_, hb.rng, fun j hj => ⟨.inr (ho j (by rw [hbl] at hj; exact hj)), ?_⟩⟩
                  · rw [hbl]
                    exact (o6.gx g7 fun j hj e => by subst e; have := (ho _ hj).1; omega).mono (Nat.zero_le _)
                  · rw [hbl] at hj
                    have := (ho j hj).1; omega
                · rw [List.getElem?_set_ne hq] at hv hxq
                  obtain ⟨B', d', e', o', r', on'⟩ := c3 q v x hv hxq
                  exact ⟨B', d', e', o'.gx g7 fun j hj e => (on' j hj).2 e, r', on'⟩
            · have hth : (getB s3 f p).isSome = true := by simpa using hth
              exact Rt.some' ⟨w4, F1, vs, rfl, z4, hw4, fun h => by rw [hth] at h; exact absurd h.1 (by simp), fun _ => rfl⟩
          · exact Rt.some' ⟨w4, F1, vs, rfl, z4, hw4, fun h => by rw [hok] at h; exact absurd h.2 (by simp), fun _ => rfl⟩
        · rintro r ⟨w5, F5, vs5, rfl, z5, hw5, hset, hkeep⟩
          refine ⟨rfl, ?_⟩
          dsimp only
          (repeat (first | (with_reducible (first | refine Rt.fin ?_ | refine Rt.tL ?_ | refine Rt.tI ?_ | refine Rt.tB ?_ | refine Rt.tS ?_ | refine Rt.tP ?_ | refine Rt.tD ?_ | refine Rt.tM ?_ | refine Rt.tC ?_ | refine Rt.tN ?_ | refine Rt.tA ?_ | refine Rt.tG ?_ | refine Rt.tF ?_ | refine Rt.os ?_ | refine Rt.clS ?_ | refine Rt.jmN ?_ | refine Rt.jbN ?_ | refine Rt.jbE ?_)) | ((with_reducible (first | apply Rt.ld0 | apply Rt.ld1 | apply Rt.ld2 | apply Rt.ld3 | apply Rt.ld4 | apply Rt.ld5)); first | assumption | exact Lc.kp (by assumption) (by assumption)) | ((with_reducible apply Rt.ol); first | assumption | exact cell_kp (by assumption) (by assumption)) | ((with_reducible apply Rt.ckR); focus ((repeat (first | (with_reducible (first | refine Rt.fin ?_ | refine Rt.tL ?_ | refine Rt.tI ?_ | refine Rt.tB ?_ | refine Rt.tS ?_ | refine Rt.tP ?_ | refine Rt.tD ?_ | refine Rt.tM ?_ | refine Rt.tC ?_ | refine Rt.tN ?_ | refine Rt.tA ?_ | refine Rt.tG ?_ | refine Rt.tF ?_ | refine Rt.os ?_ | refine Rt.clS ?_ | refine Rt.jmN ?_ | refine Rt.jbN ?_ | refine Rt.jbE ?_)) | ((with_reducible (first | apply Rt.ld0 | apply Rt.ld1 | apply Rt.ld2 | apply Rt.ld3 | apply Rt.ld4 | apply Rt.ld5)); first | assumption | exact Lc.kp (by assumption) (by assumption)) | ((with_reducible apply Rt.ol); first | assumption | exact cell_kp (by assumption) (by assumption)))); exact Rt.some' rfl))))
          refine Rt.cB (fun hok => ?_) fun hok => ?_
          · refine z5.rel (f := (f : Int)) (p := (p : Int)) hn fun w6 z6 q6 => ?_
            (repeat (first | (with_reducible (first | refine Rt.fin ?_ | refine Rt.tL ?_ | refine Rt.tI ?_ | refine Rt.tB ?_ | refine Rt.tS ?_ | refine Rt.tP ?_ | refine Rt.tD ?_ | refine Rt.tM ?_ | refine Rt.tC ?_ | refine Rt.tN ?_ | refine Rt.tA ?_ | refine Rt.tG ?_ | refine Rt.tF ?_ | refine Rt.os ?_ | refine Rt.clS ?_ | refine Rt.jmN ?_ | refine Rt.jbN ?_ | refine Rt.jbE ?_)) | ((with_reducible (first | apply Rt.ld0 | apply Rt.ld1 | apply Rt.ld2 | apply Rt.ld3 | apply Rt.ld4 | apply Rt.ld5)); first | assumption | exact Lc.kp (by assumption) (by assumption)) | ((with_reducible apply Rt.ol); first | assumption | exact cell_kp (by assumption) (by assumption)) | ((with_reducible apply Rt.ckR); focus ((repeat (first | (with_reducible (first | refine Rt.fin ?_ | refine Rt.tL ?_ | refine Rt.tI ?_ | refine Rt.tB ?_ | refine Rt.tS ?_ | refine Rt.tP ?_ | refine Rt.tD ?_ | refine Rt.tM ?_ | refine Rt.tC ?_ | refine Rt.tN ?_ | refine Rt.tA ?_ | refine Rt.tG ?_ | refine Rt.tF ?_ | refine Rt.os ?_ | refine Rt.clS ?_ | refine Rt.jmN ?_ | refine Rt.jbN ?_ | refine Rt.jbE ?_)) | ((with_reducible (first | apply Rt.ld0 | apply Rt.ld1 | apply Rt.ld2 | apply Rt.ld3 | apply Rt.ld4 | apply Rt.ld5)); first | assumption | exact Lc.kp (by assumption) (by assumption)) | ((with_reducible apply Rt.ol); first | assumption | exact cell_kp (by assumption) (by assumption)))); exact Rt.some' rfl))))
            refine Rt.some' ⟨w6, _, vs5, F5, rfl, z6, hw5.gx q6, ?_⟩
            by_cases hth : (getB s3 f p).isSome = true
            · rw [hkeep (fun h => by rw [hth] at h; exact absurd h.1 (by simp)), P1 hth]
              have := (WI_G (f := (f : Int)) (p := (p : Int)) hI3).1
              unfold afterG at this
              rw [if_pos hth] at this
              exact this
            · have hth : (getB s3 f p).isSome = false := by simpa using hth
              rw [hset ⟨hth, hok⟩]
              exact P3 hth hok
          · refine Rt.some' ⟨w5, _, vs5, F5, rfl, z5, hw5, ?_⟩
            have hth : (getB s3 f p).isSome = false := by
              cases h : (getB s3 f p).isSome with
              | false => rfl
              | true => rw [P1 h] at hok; cases hok
            rw [hkeep (fun h => by rw [hok] at h; exact absurd h.2 (by simp))]
            exact P2 hth hok
      · refine Rt.cQ (fun e3 => ?_) fun e3 => ?_
        · refine z3.drop (f := (f : Int)) hn fun w4 z4 q4 => ?_
          (repeat (first | (with_reducible (first | refine Rt.fin ?_ | refine Rt.tL ?_ | refine Rt.tI ?_ | refine Rt.tB ?_ | refine Rt.tS ?_ | refine Rt.tP ?_ | refine Rt.tD ?_ | refine Rt.tM ?_ | refine Rt.tC ?_ | refine Rt.tN ?_ | refine Rt.tA ?_ | refine Rt.tG ?_ | refine Rt.tF ?_ | refine Rt.os ?_ | refine Rt.clS ?_ | refine Rt.jmN ?_ | refine Rt.jbN ?_ | refine Rt.jbE ?_)) | ((with_reducible (first | apply Rt.ld0 | apply Rt.ld1 | apply Rt.ld2 | apply Rt.ld3 | apply Rt.ld4 | apply Rt.ld5)); first | assumption | exact Lc.kp (by assumption) (by assumption)) | ((with_reducible apply Rt.ol); first | assumption | exact cell_kp (by assumption) (by assumption)) | ((with_reducible apply Rt.ckR); focus ((repeat (first | (with_reducible (first | refine Rt.fin ?_ | refine Rt.tL ?_ | refine Rt.tI ?_ | refine Rt.tB ?_ | refine Rt.tS ?_ | refine Rt.tP ?_ | refine Rt.tD ?_ | refine Rt.tM ?_ | refine Rt.tC ?_ | refine Rt.tN ?_ | refine Rt.tA ?_ | refine Rt.tG ?_ | refine Rt.tF ?_ | refine Rt.os ?_ | refine Rt.clS ?_ | refine Rt.jmN ?_ | refine Rt.jbN ?_ | refine Rt.jbE ?_)) | ((with_reducible (first | apply Rt.ld0 | apply Rt.ld1 | apply Rt.ld2 | apply Rt.ld3 | apply Rt.ld4 | apply Rt.ld5)); first | assumption | exact Lc.kp (by assumption) (by assumption)) | ((with_reducible apply Rt.ol); first | assumption | exact cell_kp (by assumption) (by assumption)))); exact Rt.some' rfl))))
          refine Rt.some' ⟨w4, _, vs, F1, rfl, z4.up (by omega) (by omega), hw3.gx q4, ?_⟩
          exact al_drop (P := okW vs) _ _ _ _ hI3
        · exact Rt.some' ⟨w3, s3, vs, F1, rfl, z3.up (by omega) (by omega), hw3, hI3⟩
    rintro r ⟨w4, s4, vs4, F4, rfl, z4, hw4, hI4⟩
    refine ⟨rfl, ?_⟩
    dsimp only
    (repeat (first | (with_reducible (first | refine Rt.fin ?_ | refine Rt.tL ?_ | refine Rt.tI ?_ | refine Rt.tB ?_ | refine Rt.tS ?_ | refine Rt.tP ?_ | refine Rt.tD ?_ | refine Rt.tM ?_ | refine Rt.tC ?_ | refine Rt.tN ?_ | refine Rt.tA ?_ | refine Rt.tG ?_ | refine Rt.tF ?_ | refine Rt.os ?_ | refine Rt.clS ?_ | refine Rt.jmN ?_ | refine Rt.jbN ?_ | refine Rt.jbE ?_)) | ((with_reducible (first | apply Rt.ld0 | apply Rt.ld1 | apply Rt.ld2 | apply Rt.ld3 | apply Rt.ld4 | apply Rt.ld5)); first | assumption | exact Lc.kp (by assumption) (by assumption)) | ((with_reducible apply Rt.ol); first | assumption | exact cell_kp (by assumption) (by assumption)) | ((with_reducible apply Rt.ckR); focus ((repeat (first | (with_reducible (first | refine Rt.fin ?_ | refine Rt.tL ?_ | refine Rt.tI ?_ | refine Rt.tB ?_ | refine Rt.tS ?_ | refine Rt.tP ?_ | refine Rt.tD ?_ | refine Rt.tM ?_ | refine Rt.tC ?_ | refine Rt.tN ?_ | refine Rt.tA ?_ | refine Rt.tG ?_ | refine Rt.tF ?_ | refine Rt.os ?_ | refine Rt.clS ?_ | refine Rt.jmN ?_ | refine Rt.jbN ?_ | refine Rt.jbE ?_)) | ((with_reducible (first | apply Rt.ld0 | apply Rt.ld1 | apply Rt.ld2 | apply Rt.ld3 | apply Rt.ld4 | apply Rt.ld5)); first | assumption | exact Lc.kp (by assumption) (by assumption)) | ((with_reducible apply Rt.ol); first | assumption | exact cell_kp (by assumption) (by assumption)))); exact Rt.some' rfl))))
    refine z4.get (f := (f : Int)) (p := (p : Int)) (by omega) hn fun B5 m5 d5 w5 b5 o5 z5 q5 => ?_
    have hw5 := hw4.gx q5
    obtain ⟨hI5, _⟩ := WI_G (f := (f : Int)) (p := (p : Int)) hI4
    (repeat (first | (with_reducible (first | refine Rt.fin ?_ | refine Rt.tL ?_ | refine Rt.tI ?_ | refine Rt.tB ?_ | refine Rt.tS ?_ | refine Rt.tP ?_ | refine Rt.tD ?_ | refine Rt.tM ?_ | refine Rt.tC ?_ | refine Rt.tN ?_ | refine Rt.tA ?_ | refine Rt.tG ?_ | refine Rt.tF ?_ | refine Rt.os ?_ | refine Rt.clS ?_ | refine Rt.jmN ?_ | refine Rt.jbN ?_ | refine Rt.jbE ?_)) | ((with_reducible (first | apply Rt.ld0 | apply Rt.ld1 | apply Rt.ld2 | apply Rt.ld3 | apply Rt.ld4 | apply Rt.ld5)); first | assumption | exact Lc.kp (by assumption) (by assumption)) | ((with_reducible apply Rt.ol); first | assumption | exact cell_kp (by assumption) (by assumption)) | ((with_reducible apply Rt.ckR); focus ((repeat (first | (with_reducible (first | refine Rt.fin ?_ | refine Rt.tL ?_ | refine Rt.tI ?_ | refine Rt.tB ?_ | refine Rt.tS ?_ | refine Rt.tP ?_ | refine Rt.tD ?_ | refine Rt.tM ?_ | refine Rt.tC ?_ | refine Rt.tN ?_ | refine Rt.tA ?_ | refine Rt.tG ?_ | refine Rt.tF ?_ | refine Rt.os ?_ | refine Rt.clS ?_ | refine Rt.jmN ?_ | refine Rt.jbN ?_ | refine Rt.jbE ?_)) | ((with_reducible (first | apply Rt.ld0 | apply Rt.ld1 | apply Rt.ld2 | apply Rt.ld3 | apply Rt.ld4 | apply Rt.ld5)); first | assumption | exact Lc.kp (by assumption) (by assumption)) | ((with_reducible apply Rt.ol); first | assumption | exact cell_kp (by assumption) (by assumption)))); exact Rt.some' rfl))))
    refine Rt.cB (fun hbt => ?_) fun hbf => ?_
    · refine z5.rel (f := (f : Int)) (p := (p : Int)) hn fun w6 z6 q6 => ?_
      have o6 := o5.gx q6 fun j hj h => h (.inr hj)
      have hw6 := hw5.gx (q6.wide fun j _ h hF => h (.inl hF))
      obtain ⟨b, hbs⟩ := Option.isSome_iff_exists.1 hbt
      have hvb := WI_get hI4 hbs
      rw [hbs] at o6 b5
      have e6 : afterG s4 f p = (relS (getS s4 f p) f p).1 := by unfold afterG; rw [if_pos hbt]
      rw [← e6] at z6
      obtain ⟨⟨cs, c1, c2, c3⟩, v2, v3⟩ := id hw6
      have hcs : cs[f * 4 + p]? = some (cs[f * 4 + p]'(by omega)) := List.getElem?_eq_getElem _
      generalize (cs[f * 4 + p]'(by omega)) = cv at hcs
      obtain ⟨B7, d7, rfl, o7, r7, on7⟩ := c3 _ _ _ hcs hvb
      have o6d := (o6.dr).bv b5.rng
      have o7d := (o7.dr).bv r7
      (repeat (first | (with_reducible (first | refine Rt.fin ?_ | refine Rt.tL ?_ | refine Rt.tI ?_ | refine Rt.tB ?_ | refine Rt.tS ?_ | refine Rt.tP ?_ | refine Rt.tD ?_ | refine Rt.tM ?_ | refine Rt.tC ?_ | refine Rt.tN ?_ | refine Rt.tA ?_ | refine Rt.tG ?_ | refine Rt.tF ?_ | refine Rt.os ?_ | refine Rt.clS ?_ | refine Rt.jmN ?_ | refine Rt.jbN ?_ | refine Rt.jbE ?_)) | ((with_reducible (first | apply Rt.ld0 | apply Rt.ld1 | apply Rt.ld2 | apply Rt.ld3 | apply Rt.ld4 | apply Rt.ld5)); first | assumption | exact Lc.kp (by assumption) (by assumption)) | ((with_reducible apply Rt.ol); first | assumption | exact cell_kp (by assumption) (by assumption)) | ((with_reducible apply Rt.ckR); focus ((repeat (first | (with_reducible (first | refine Rt.fin ?_ | refine Rt.tL ?_ | refine Rt.tI ?_ | refine Rt.tB ?_ | refine Rt.tS ?_ | refine Rt.tP ?_ | refine Rt.tD ?_ | refine Rt.tM ?_ | refine Rt.tC ?_ | refine Rt.tN ?_ | refine Rt.tA ?_ | refine Rt.tG ?_ | refine Rt.tF ?_ | refine Rt.os ?_ | refine Rt.clS ?_ | refine Rt.jmN ?_ | refine Rt.jbN ?_ | refine Rt.jbE ?_)) | ((with_reducible (first | apply Rt.ld0 | apply Rt.ld1 | apply Rt.ld2 | apply Rt.ld3 | apply Rt.ld4 | apply Rt.ld5)); first | assumption | exact Lc.kp (by assumption) (by assumption)) | ((with_reducible apply Rt.ol); first | assumption | exact cell_kp (by assumption) (by assumption)))); exact Rt.some' rfl))))
      refine Rt.str o6d ?_
      refine Rt.ixR2 (by omega) (by omega) (Rt.ixR2 (by omega) (by omega) ?_)
      have eidx : 0 + (f : Int).toNat * 4 + (p : Int).toNat * 1 = f * 4 + p := by omega
      rw [eidx]
      refine Rt.ldb (c1.kp (Kp.rfl' w6).dr) hcs (Rt.tL (Rt.str o7d (Rt.cSn b5.rng r7 (fun _ => ?_) fun h => absurd rfl h)))
      refine Rt.some' (.inl ⟨.inl rfl, ?_⟩)
      (repeat (first | (with_reducible (first | refine Rt.fin ?_ | refine Rt.tL ?_ | refine Rt.tI ?_ | refine Rt.tB ?_ | refine Rt.tS ?_ | refine Rt.tP ?_ | refine Rt.tD ?_ | refine Rt.tM ?_ | refine Rt.tC ?_ | refine Rt.tN ?_ | refine Rt.tA ?_ | refine Rt.tG ?_ | refine Rt.tF ?_ | refine Rt.os ?_ | refine Rt.clS ?_ | refine Rt.jmN ?_ | refine Rt.jbN ?_ | refine Rt.jbE ?_)) | ((with_reducible (first | apply Rt.ld0 | apply Rt.ld1 | apply Rt.ld2 | apply Rt.ld3 | apply Rt.ld4 | apply Rt.ld5)); first | assumption | exact Lc.kp (by assumption) (by assumption)) | ((with_reducible apply Rt.ol); first | assumption | exact cell_kp (by assumption) (by assumption)) | ((with_reducible apply Rt.ckR); focus ((repeat (first | (with_reducible (first | refine Rt.fin ?_ | refine Rt.tL ?_ | refine Rt.tI ?_ | refine Rt.tB ?_ | refine Rt.tS ?_ | refine Rt.tP ?_ | refine Rt.tD ?_ | refine Rt.tM ?_ | refine Rt.tC ?_ | refine Rt.tN ?_ | refine Rt.tA ?_ | refine Rt.tG ?_ | refine Rt.tF ?_ | refine Rt.os ?_ | refine Rt.clS ?_ | refine Rt.jmN ?_ | refine Rt.jbN ?_ | refine Rt.jbE ?_)) | ((with_reducible (first | apply Rt.ld0 | apply Rt.ld1 | apply Rt.ld2 | apply Rt.ld3 | apply Rt.ld4 | apply Rt.ld5)); first | assumption | exact Lc.kp (by assumption) (by assumption)) | ((with_reducible apply Rt.ol); first | assumption | exact cell_kp (by assumption) (by assumption)))); exact Rt.some' rfl))))
      rw [i64_in _ (by omega), show ((i : Int) + 1) = ((i + 1 : Nat) : Int) by omega]
      exact ih (i + 1) j _ _ vs4 F4 (by omega) (by omega) (((z6.less (G := F4) fun j hj => .inl hj).kp' (Kp.rfl' w6).dr).up (by omega) (by omega)) (hw6.kp (Kp.rfl' w6).dr) hI5
    · refine Rt.some' (.inl ⟨.inl rfl, ?_⟩)
      (repeat (first | (with_reducible (first | refine Rt.fin ?_ | refine Rt.tL ?_ | refine Rt.tI ?_ | refine Rt.tB ?_ | refine Rt.tS ?_ | refine Rt.tP ?_ | refine Rt.tD ?_ | refine Rt.tM ?_ | refine Rt.tC ?_ | refine Rt.tN ?_ | refine Rt.tA ?_ | refine Rt.tG ?_ | refine Rt.tF ?_ | refine Rt.os ?_ | refine Rt.clS ?_ | refine Rt.jmN ?_ | refine Rt.jbN ?_ | refine Rt.jbE ?_)) | ((with_reducible (first | apply Rt.ld0 | apply Rt.ld1 | apply Rt.ld2 | apply Rt.ld3 | apply Rt.ld4 | apply Rt.ld5)); first | assumption | exact Lc.kp (by assumption) (by assumption)) | ((with_reducible apply Rt.ol); first | assumption | exact cell_kp (by assumption) (by assumption)) | ((with_reducible apply Rt.ckR); focus ((repeat (first | (with_reducible (first | refine Rt.fin ?_ | refine Rt.tL ?_ | refine Rt.tI ?_ | refine Rt.tB ?_ | refine Rt.tS ?_ | refine Rt.tP ?_ | refine Rt.tD ?_ | refine Rt.tM ?_ | refine Rt.tC ?_ | refine Rt.tN ?_ | refine Rt.tA ?_ | refine Rt.tG ?_ | refine Rt.tF ?_ | refine Rt.os ?_ | refine Rt.clS ?_ | refine Rt.jmN ?_ | refine Rt.jbN ?_ | refine Rt.jbE ?_)) | ((with_reducible (first | apply Rt.ld0 | apply Rt.ld1 | apply Rt.ld2 | apply Rt.ld3 | apply Rt.ld4 | apply Rt.ld5)); first | assumption | exact Lc.kp (by assumption) (by assumption)) | ((with_reducible apply Rt.ol); first | assumption | exact cell_kp (by assumption) (by assumption)))); exact Rt.some' rfl))))
      rw [i64_in _ (by omega), show ((i : Int) + 1) = ((i + 1 : Nat) : Int) by omega]
      have e6 : afterG s4 f p = getS s4 f p := by unfold afterG; rw [if_neg (by rw [hbf]; simp)]
      rw [e6] at hI5
      exact ih (i + 1) j _ _ vs4 F4 (by omega) (by omega) ((z5.less (G := F4) fun j hj => .inl hj).up (by omega) (by omega)) hw5 hI5
theorem ClockWhole_spec {r : Int} (hx : Ev acEl w A l c xs) (hn : 2 ^ 60 < n) : Rt (butterylaw14_ClockWhole n [.int .i64 r, .slice A l c] w) (RB True w) := by
  rw [butterylaw14_ClockWhole_eq]
  refine Rt.fin (Rt.cBt (alive_spec hn) trivial fun w1 k1 => Rt.cF rfl ?_)
  refine Rt.cD (fun _ => Rt.endB (by simp) k1) fun h1 => Rt.cD (fun _ => Rt.endB (by simp) k1) fun h2 => Rt.cD (fun _ => Rt.endB (by simp) k1) fun h3 => ?_
  obtain ⟨_, e, w2, rfl, k2, hc, z2⟩ := New_spec (base := w1.heap.size) (w := w1) (n := n) (r := r) (Nat.le_refl _)
  refine Rt.cl e ?_
  (repeat (first | (with_reducible (first | refine Rt.fin ?_ | refine Rt.tL ?_ | refine Rt.tI ?_ | refine Rt.tB ?_ | refine Rt.tS ?_ | refine Rt.tP ?_ | refine Rt.tD ?_ | refine Rt.tM ?_ | refine Rt.tC ?_ | refine Rt.tN ?_ | refine Rt.tA ?_ | refine Rt.tG ?_ | refine Rt.tF ?_ | refine Rt.os ?_ | refine Rt.clS ?_ | refine Rt.jmN ?_ | refine Rt.jbN ?_ | refine Rt.jbE ?_)) | ((with_reducible (first | apply Rt.ld0 | apply Rt.ld1 | apply Rt.ld2 | apply Rt.ld3 | apply Rt.ld4 | apply Rt.ld5)); first | assumption | exact Lc.kp (by assumption) (by assumption)) | ((with_reducible apply Rt.ol); first | assumption | exact cell_kp (by assumption) (by assumption)) | ((with_reducible apply Rt.ckR); focus ((repeat (first | (with_reducible (first | refine Rt.fin ?_ | refine Rt.tL ?_ | refine Rt.tI ?_ | refine Rt.tB ?_ | refine Rt.tS ?_ | refine Rt.tP ?_ | refine Rt.tD ?_ | refine Rt.tM ?_ | refine Rt.tC ?_ | refine Rt.tN ?_ | refine Rt.tA ?_ | refine Rt.tG ?_ | refine Rt.tF ?_ | refine Rt.os ?_ | refine Rt.clS ?_ | refine Rt.jmN ?_ | refine Rt.jbN ?_ | refine Rt.jbE ?_)) | ((with_reducible (first | apply Rt.ld0 | apply Rt.ld1 | apply Rt.ld2 | apply Rt.ld3 | apply Rt.ld4 | apply Rt.ld5)); first | assumption | exact Lc.kp (by assumption) (by assumption)) | ((with_reducible apply Rt.ol); first | assumption | exact cell_kp (by assumption) (by assumption)))); exact Rt.some' rfl))))
  refine Rt.al fun w3 l3 k3 s3 => ?_
  have z0 : Fz w1 w2 w1.heap.size 0 ⟨if 0 < r then r else 0, 0, [], 0⟩ (fun _ => False) := ⟨k2, ⟨_, fun z hz => ⟨by omega, by omega, fun h => h⟩, hc⟩, Ok.new (by omega), fun j h => h.elim⟩
  have z3 := z0.al k3
  have hwa : Wa w3 w2.heap.size (fun j => False ∨ w2.heap.size ≤ j ∧ j < w3.heap.size) (List.replicate 16 []) := by
    refine ⟨⟨List.replicate 16 (.slice none 0 0), l3, rfl, fun i v x hv hx => ?_⟩, rfl, .inr ⟨Nat.le_refl _, s3⟩⟩
    rw [List.getElem?_replicate] at hv hx
    split at hv
    · rw [if_pos ‹_›] at hx
      injection hv with hv
      injection hx with hx
      subst hv hx
      exact ⟨none, 0, rfl, Own.nil _ _, (fun z hz => by cases hz), fun j hj => by cases hj⟩
    · cases hv
  refine Rt.jb (Rt.mono (Whole_l0 (hx.kp k1) (by omega) hn k2.size l 0 n w3 _ _ _ (by omega) (by omega) z3 hwa (fun x hx => by cases hx)) ?_)
  rintro r (⟨w4, s4, N4, F4, rfl, z4, hp⟩ | ⟨w4, rfl, k4⟩)
  · refine .inl ⟨.inr rfl, ?_⟩
    (repeat (first | (with_reducible (first | refine Rt.fin ?_ | refine Rt.tL ?_ | refine Rt.tI ?_ | refine Rt.tB ?_ | refine Rt.tS ?_ | refine Rt.tP ?_ | refine Rt.tD ?_ | refine Rt.tM ?_ | refine Rt.tC ?_ | refine Rt.tN ?_ | refine Rt.tA ?_ | refine Rt.tG ?_ | refine Rt.tF ?_ | refine Rt.os ?_ | refine Rt.clS ?_ | refine Rt.jmN ?_ | refine Rt.jbN ?_ | refine Rt.jbE ?_)) | ((with_reducible (first | apply Rt.ld0 | apply Rt.ld1 | apply Rt.ld2 | apply Rt.ld3 | apply Rt.ld4 | apply Rt.ld5)); first | assumption | exact Lc.kp (by assumption) (by assumption)) | ((with_reducible apply Rt.ol); first | assumption | exact cell_kp (by assumption) (by assumption)) | ((with_reducible apply Rt.ckR); focus ((repeat (first | (with_reducible (first | refine Rt.fin ?_ | refine Rt.tL ?_ | refine Rt.tI ?_ | refine Rt.tB ?_ | refine Rt.tS ?_ | refine Rt.tP ?_ | refine Rt.tD ?_ | refine Rt.tM ?_ | refine Rt.tC ?_ | refine Rt.tN ?_ | refine Rt.tA ?_ | refine Rt.tG ?_ | refine Rt.tF ?_ | refine Rt.os ?_ | refine Rt.clS ?_ | refine Rt.jmN ?_ | refine Rt.jbN ?_ | refine Rt.jbE ?_)) | ((with_reducible (first | apply Rt.ld0 | apply Rt.ld1 | apply Rt.ld2 | apply Rt.ld3 | apply Rt.ld4 | apply Rt.ld5)); first | assumption | exact Lc.kp (by assumption) (by assumption)) | ((with_reducible apply Rt.ol); first | assumption | exact cell_kp (by assumption) (by assumption)))); exact Rt.some' rfl))))
    refine Rt.cI (z4.pins hn) fun w5 k5 => ?_
    exact Rt.endB (by rw [hp]; simp) ((k1.tr z4.kp).tr k5)
  · exact .inr ⟨rfl, rfl, true, w4, rfl, by simp, k1.tr k4⟩
end
end Go.Proofs.Ytdnbpgakmbamoaa.Ck
