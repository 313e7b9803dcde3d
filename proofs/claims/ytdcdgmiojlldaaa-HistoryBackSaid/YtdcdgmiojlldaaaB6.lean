/- Regions: in the text's order, and in whatever order. -/
import Derived.Test.YtdcdgmiojlldaaaB5
namespace Go.Proofs.Ytdcdgmiojlldaaa.Big
open Go
set_option linter.unusedVariables false
set_option linter.unusedSimpArgs false

def okDst (N : Nat) (ops : List Oper) : Bool := ops.all fun o => match o.dst with | some d => Nat.blt d N | none => true
section
variable {P : Program} {T : TT} {O : Orc} {N : Nat} {e : Env} {a : Act} {w : World} {r : Res}
theorem look_cons {β : Type} {t d : Nat} {v u : β} {e : List (Nat × β)} (h : look t ((d, v) :: e) = some u) : (t = d ∧ u = v) ∨ (t ≠ d ∧ look t e = some u) := by
  have h : cond (Nat.beq d t) (some v) (look t e) = some u := h
  by_cases ht : d = t
  · subst ht; rw [Nat.beq_refl] at h; injection h with h; exact .inl ⟨rfl, h.symm⟩
  · rw [Bool.eq_false_iff.2 fun h' => ht (Nat.eq_of_beq_eq_true h')] at h
    exact .inr ⟨fun h' => ht h'.symm, h⟩
theorem EnvOk.put (he : EnvOk N e a) {d : Option Tmp} (hd : ∀ x, d = some x → x < N) (v : Value) : EnvOk N (putE d v e) (a.put d v) := by
  cases d with
  | none => exact he
  | some d =>
    refine ⟨by simp [Act.put, he.size], he.defers, fun t u h => ?_⟩
    have hlt : d < a.tmps.size := by rw [he.size]; exact hd d rfl
    rcases look_cons h with ⟨rfl, rfl⟩ | ⟨hne, h⟩
    · simp [Act.put, hlt]
    · simp [Act.put, Array.getElem?_setIfInBounds_ne (Ne.symm hne), he.get t u h]
theorem EnvOk.again (he : EnvOk N e a) {d : Nat} {v : Value} (h : look d e = some v) : EnvOk N ((d, v) :: e) a :=
  ⟨he.size, he.defers, fun t u ht => by
    rcases look_cons ht with ⟨rfl, rfl⟩ | ⟨_, h'⟩
    · exact he.get _ _ h
    · exact he.get _ _ h'⟩
theorem guarded_inv {α : Type} {r : α} {all : Array Oper} {o : Oper} (he : EnvOk N e a) {f : Bool → Env → Option α} (h : guarded all o e f = some r) :
    ∃ e', EnvOk N e' a ∧ f (Region.wanted o (yielded all a.tmps)) e' = some r := by
  unfold guarded at h
  unfold Region.wanted
  split at h
  · rename_i hg; rw [hg]; exact ⟨e, he, h⟩
  · rename_i j want hg
    rw [hg]
    obtain ⟨d, hd, h⟩ := optL_inv h
    obtain ⟨v, hv, h⟩ := optL_inv h
    have hy : (dstOf all j).bind (a.tmps[·]?) = some v := by rw [hd]; exact he.get d v hv
    unfold dstOf at hy
    simp only [yielded, hy]
    split at h
    · rename_i b
      refine ⟨(d, .bool b) :: e, he.again hv, ?_⟩
      cases b <;> cases want <;> exact h
    · exact ⟨e, he, h⟩
    · cases h
theorem regE_cons {all : Array Oper} {o : Oper} {l : List Oper} {e : Env} {w : World} {k : K} : regE P T O all (o :: l) e w k =
    guarded all o e fun b e => cond b (opE P T O o e w fun v w' => regE P T O all l (putE o.dst v e) w' k) (regE P T O all l (putE o.dst undef e) w k) := rfl
theorem regD_cons {bits : List Nat} {all : Array Oper} {o : Oper} {l : List Oper} {i : Nat} {e : Env} {w : World} {hist : List (Nat × World)} {pend : List Pend} {k : K} : regD P T O bits all (o :: l) i e w hist pend k =
    guarded all o e fun b e => cond b
      (opE P T O o e w fun v w' =>
        match cls T o with
        | .v => regD P T O bits all l (i + 1) (putE o.dst v e) w hist pend k
        | .r => ckBack P T O bits i o e v hist (regD P T O bits all l (i + 1) (putE o.dst v e) w hist (⟨i, o, e, v⟩ :: pend) k)
        | .e => ckFore P T O bits i w' pend (regD P T O bits all l (i + 1) (putE o.dst v e) w' ((i, w) :: hist) pend k))
      (regD P T O bits all l (i + 1) (putE o.dst undef e) w hist pend k) := rfl
theorem regE_inv (hT : TOk P T) (hO : OOk P O) {all : Array Oper} {k : K} {Q : Exit → Act → World → Prop} (hQ : ∀ e' a' w', EnvOk N e' a' → k e' w' = some r → Q .normal a' w') :
    ∀ (l : List Oper) (i : Nat) (e : Env) (a : Act) (w : World), (∀ j : Nat, l[j]? = all[i + j]?) → okDst N l = true → EnvOk N e a → regE P T O all l e w k = some r → wpOps P all Q (List.range' i l.length) a w
  | [], i, e, a, w, _, _, he, h => hQ e a w he h
  | o :: l, i, e, a, w, hl, hd, he, h => by
    have h0 := hl 0
    simp only [List.getElem?_cons_zero, Nat.add_zero] at h0
    simp only [okDst, List.all_cons, Bool.and_eq_true] at hd
    have hd0 : ∀ x, o.dst = some x → x < N := fun x hx => by have := hd.1; rw [hx] at this; exact Nat.le_of_ble_eq_true this
    have hl' : ∀ j : Nat, l[j]? = all[i + 1 + j]? := fun j => by have := hl (j + 1); rw [List.getElem?_cons_succ] at this; rw [this]; congr 1; omega
    rw [regE_cons] at h
    obtain ⟨e', he', h⟩ := guarded_inv he h
    simp only [List.length_cons, List.range'_succ, wpOps, ← h0]
    cases hw : Region.wanted o (yielded all a.tmps) with
    | true =>
      rw [hw, cond_true] at h
      obtain ⟨v, w', h, hf⟩ := opE_inv hT hO he' h
      simp only [if_true]
      exact .inl (hf.1.wp (regE_inv hT hO hQ l (i + 1) _ _ _ hl' hd.2 (he'.put hd0 v) h))
    | false =>
      rw [hw] at h
      simp only [Bool.false_eq_true, if_false]
      exact regE_inv hT hO hQ l (i + 1) _ _ _ hl' hd.2 (he'.put hd0 undef) h

/-! ### Whatever order -/
structure St where
  o : Oper
  a : Act
  w : World
  b : Bool
  u : Value
  w' : World
def ResAt (P : Program) (s : St) (w : World) : Prop := ResOk P ((execOp s.a.eval s.o).run P w) s.u w
def StepOk (P : Program) (T : TT) (all : Array Oper) (s : St) : Prop :=
  s.b = Region.wanted s.o (yielded all s.a.tmps) ∧ (s.b = true → Fine P T s.o s.a s.w s.u s.w') ∧ (s.b = false → s.u = undef ∧ s.w' = s.w)
noncomputable def isE (T : TT) (s : St) : Bool := s.b && decide (cls T s.o = .e)
noncomputable def isR (T : TT) (s : St) : Bool := s.b && decide (cls T s.o = .r)
def Chain (P : Program) (T : TT) (all : Array Oper) : List St → Act → World → Act → World → Prop
  | [], a, w, a', w' => a = a' ∧ w = w'
  | s :: ss, a, w, a', w' => s.a = a ∧ s.w = w ∧ StepOk P T all s ∧ Chain P T all ss (a.put s.o.dst s.u) s.w' a' w'
def Checks (P : Program) (T : TT) (bits : List Nat) : Nat → List St → List (Nat × World) → List (Nat × St) → Prop
  | _, [], _, _ => True
  | i, s :: ss, hist, pend => (isR T s = true → ∀ p ∈ hist, unord bits p.1 i = true → ResAt P s p.2) ∧ (isE T s = true → ∀ q ∈ pend, unord bits q.1 i = true → ResAt P q.2 s.w') ∧
      Checks P T bits (i + 1) ss (if isE T s then (i, s.w) :: hist else hist) (if isR T s then (i, s) :: pend else pend)
inductive All2 {α β : Type} (R : α → β → Prop) : List α → List β → Prop
  | nil : All2 R [] []
  | cons {a : α} {b : β} {as : List α} {bs : List β} : R a b → All2 R as bs → All2 R (a :: as) (b :: bs)
theorem ck_inv {α : Type} {r : α} {x : Option Value} {v : Value} {y : Option α} (h : ck x v y = some r) : x = some v ∧ y = some r := by
  unfold ck at h; split at h
  · rename_i hx; exact ⟨hx, h⟩
  · cases h
theorem again_inv (hT : TOk P T) (hO : OOk P O) (he : EnvOk N e a) {o : Oper} (hc : cls T o = .r) {v : Value} (h : again P T O o e w = some v) : ResOk P ((execOp a.eval o).run P w) v w := by
  obtain ⟨u, w', h, hf⟩ := opE_inv hT hO he h
  injection h with h; subst h
  have := hf.2.2 hc; subst this
  exact hf.1
theorem ckBack_inv {α : Type} {r : α} (hT : TOk P T) (hO : OOk P O) (he : EnvOk N e a) {o : Oper} (hc : cls T o = .r) {v : Value} {bits : List Nat} {i : Nat} : ∀ (hist : List (Nat × World)) {y : Option α}, ckBack P T O bits i o e v hist y = some r →
    y = some r ∧ ∀ p ∈ hist, unord bits p.1 i = true → ResOk P ((execOp a.eval o).run P p.2) v p.2
  | [], y, h => ⟨h, by simp⟩
  | p :: hist, y, h => by
    have h : cond (unord bits p.1 i) (ck (again P T O o e p.2) v (ckBack P T O bits i o e v hist y)) (ckBack P T O bits i o e v hist y) = some r := h
    cases hu : unord bits p.1 i with
    | true =>
      rw [hu] at h
      obtain ⟨h1, h2⟩ := ck_inv h
      obtain ⟨h3, h4⟩ := ckBack_inv hT hO he hc hist h2
      refine ⟨h3, fun q hq hq' => ?_⟩
      rcases List.mem_cons.1 hq with rfl | hq
      · exact again_inv hT hO he hc h1
      · exact h4 q hq hq'
    | false =>
      rw [hu] at h
      obtain ⟨h3, h4⟩ := ckBack_inv hT hO he hc hist h
      refine ⟨h3, fun q hq hq' => ?_⟩
      rcases List.mem_cons.1 hq with rfl | hq
      · rw [hu] at hq'; cases hq'
      · exact h4 q hq hq'
/-- What is kept of a read. -/
def PendOk (P : Program) (T : TT) (N : Nat) (p : Pend) (q : Nat × St) : Prop := p.at_ = q.1 ∧ p.o = q.2.o ∧ p.v = q.2.u ∧ EnvOk N p.e q.2.a ∧ cls T p.o = .r
theorem ckFore_inv {α : Type} {r : α} (hT : TOk P T) (hO : OOk P O) {bits : List Nat} {i : Nat} : ∀ (pend : List Pend) (qs : List (Nat × St)) {y : Option α}, All2 (PendOk P T N) pend qs → ckFore P T O bits i w pend y = some r →
    y = some r ∧ ∀ q ∈ qs, unord bits q.1 i = true → ResAt P q.2 w
  | [], qs, y, hp, h => by cases hp; exact ⟨h, by simp⟩
  | p :: pend, qs, y, hp, h => by
    cases hp with
    | cons hp0 hp =>
      rename_i q qs
      have h : cond (unord bits p.at_ i) (ck (again P T O p.o p.e w) p.v (ckFore P T O bits i w pend y)) (ckFore P T O bits i w pend y) = some r := h
      obtain ⟨e1, e2, e3, e4, e5⟩ := hp0
      cases hu : unord bits p.at_ i with
      | true =>
        rw [hu] at h
        obtain ⟨h1, h2⟩ := ck_inv h
        obtain ⟨h3, h4⟩ := ckFore_inv hT hO pend qs hp h2
        refine ⟨h3, fun z hz hz' => ?_⟩
        rcases List.mem_cons.1 hz with rfl | hz
        · have := again_inv hT hO e4 e5 h1
          rw [e2, e3] at this; exact this
        · exact h4 z hz hz'
      | false =>
        rw [hu] at h
        obtain ⟨h3, h4⟩ := ckFore_inv hT hO pend qs hp h
        refine ⟨h3, fun z hz hz' => ?_⟩
        rcases List.mem_cons.1 hz with rfl | hz
        · rw [← e1, hu] at hz'; cases hz'
        · exact h4 z hz hz'
theorem regD_inv (hT : TOk P T) (hO : OOk P O) {bits : List Nat} {all : Array Oper} {k : K} :
    ∀ (l : List Oper) (i : Nat) (e : Env) (a : Act) (w : World) (hist : List (Nat × World)) (pend : List Pend) (qs : List (Nat × St)), okDst N l = true → EnvOk N e a → All2 (PendOk P T N) pend qs →
      regD P T O bits all l i e w hist pend k = some r → ∃ ss : List St, ss.map (·.o) = l ∧ ∃ e' a' w', EnvOk N e' a' ∧ k e' w' = some r ∧ Chain P T all ss a w a' w' ∧ Checks P T bits i ss hist qs
  | [], i, e, a, w, hist, pend, qs, _, he, _, h => ⟨[], rfl, e, a, w, he, h, ⟨rfl, rfl⟩, trivial⟩
  | o :: l, i, e, a, w, hist, pend, qs, hd, he, hp, h => by
    simp only [okDst, List.all_cons, Bool.and_eq_true] at hd
    have hd0 : ∀ x, o.dst = some x → x < N := fun x hx => by have := hd.1; rw [hx] at this; exact Nat.le_of_ble_eq_true this
    rw [regD_cons] at h
    obtain ⟨e1, he1, h⟩ := guarded_inv he h
    cases hw : Region.wanted o (yielded all a.tmps) with
    | false =>
      rw [hw, cond_false] at h
      obtain ⟨ss, h1, e', a', w', h2, h3, h4, h5⟩ := regD_inv hT hO l (i + 1) _ _ _ hist pend qs hd.2 (he1.put hd0 undef) hp h
      refine ⟨⟨o, a, w, false, undef, w⟩ :: ss, by simp [h1], e', a', w', h2, h3, ⟨rfl, rfl, ⟨hw.symm, by simp, fun _ => ⟨rfl, rfl⟩⟩, h4⟩, ?_⟩
      exact ⟨by simp [isR], by simp [isE], by simpa [isE, isR] using h5⟩
    | true =>
      rw [hw, cond_true] at h
      obtain ⟨v, w1, h, hf⟩ := opE_inv hT hO he1 h
      cases hc : cls T o with
      | v =>
        simp only [hc] at h
        have hw1 := (hf.2.1 hc).1
        subst hw1
        obtain ⟨ss, h1, e', a', w', h2, h3, h4, h5⟩ := regD_inv hT hO l (i + 1) _ _ _ hist pend qs hd.2 (he1.put hd0 v) hp h
        refine ⟨⟨o, a, w1, true, v, w1⟩ :: ss, by simp [h1], e', a', w', h2, h3, ⟨rfl, rfl, ⟨hw.symm, fun _ => hf, by simp⟩, h4⟩, ?_⟩
        exact ⟨by simp [isR, hc], by simp [isE, hc], by simpa [isE, isR, hc] using h5⟩
      | r =>
        simp only [hc] at h
        have hw1 := hf.2.2 hc
        subst hw1
        obtain ⟨h, hb⟩ := ckBack_inv hT hO he1 hc hist h
        obtain ⟨ss, h1, e', a', w', h2, h3, h4, h5⟩ := regD_inv hT hO l (i + 1) _ _ _ hist _ ((i, ⟨o, a, w1, true, v, w1⟩) :: qs) hd.2 (he1.put hd0 v) (.cons ⟨rfl, rfl, rfl, he1, hc⟩ hp) h
        refine ⟨⟨o, a, w1, true, v, w1⟩ :: ss, by simp [h1], e', a', w', h2, h3, ⟨rfl, rfl, ⟨hw.symm, fun _ => hf, by simp⟩, h4⟩, ?_⟩
        exact ⟨fun _ p hp hu => hb p hp hu, by simp [isE, hc], by simpa [isE, isR, hc] using h5⟩
      | e =>
        simp only [hc] at h
        obtain ⟨h, hb⟩ := ckFore_inv hT hO pend qs hp h
        obtain ⟨ss, h1, e', a', w', h2, h3, h4, h5⟩ := regD_inv hT hO l (i + 1) _ _ _ ((i, w) :: hist) pend qs hd.2 (he1.put hd0 v) hp h
        refine ⟨⟨o, a, w, true, v, w1⟩ :: ss, by simp [h1], e', a', w', h2, h3, ⟨rfl, rfl, ⟨hw.symm, fun _ => hf, by simp⟩, h4⟩, ?_⟩
        exact ⟨by simp [isR, hc], fun _ q hq hu => hb q hq hu, by simpa [isE, isR, hc] using h5⟩
end
end Go.Proofs.Ytdcdgmiojlldaaa.Big
