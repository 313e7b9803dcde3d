/- A region that draws: whatever order comes up, it ends where the text's order ends. -/
import Derived.Test.YtdcdgmiojlldaaaB6
namespace Go.Proofs.Ytdcdgmiojlldaaa.Big
open Go
set_option linter.unusedVariables false
set_option linter.unusedSimpArgs false

/-- What is asked of a region and of its table of what lies before. -/
noncomputable def chkR (T : TT) (bits : List Nat) (all : Array Oper) : Bool :=
  Region.noSelect all &&
  (List.range all.size).all fun j => match all[j]? with
    | some oj =>
      (oj.after.all fun e => !Region.binds .any e || Nat.blt e.on j) &&
      (List.range all.size).all fun i =>
        cond ((bits.getD j 0).testBit i)
          (Nat.blt i j && oj.after.any fun e => Region.binds .any e && (e.on == i || (bits.getD e.on 0).testBit i))
          (!Nat.blt i j || match all[i]? with
            | some oi => oi.apart all oj && !(decide (cls T oi = .e) && decide (cls T oj = .e))
            | none => true)
    | none => true

structure RegOk (T : TT) (bits : List Nat) (all : Array Oper) : Prop where
  nosel : ∀ (j : Nat) (o : Oper) cs b, all[j]? = some o → o.op ≠ .select cs b
  back : ∀ (j : Nat) (o : Oper), all[j]? = some o → ∀ e ∈ o.after, Region.binds .any e = true → e.on < j
  bit : ∀ (j i : Nat) (o : Oper), all[j]? = some o → i < all.size → (bits.getD j 0).testBit i = true → i < j ∧ ∃ e ∈ o.after, Region.binds .any e = true ∧ (e.on = i ∨ (bits.getD e.on 0).testBit i = true)
  apart : ∀ (i j : Nat) (oi oj : Oper), all[i]? = some oi → all[j]? = some oj → i < j → (bits.getD j 0).testBit i = false → oi.apart all oj = true ∧ ¬(cls T oi = .e ∧ cls T oj = .e)
theorem chkR_ok {T : TT} {bits : List Nat} {all : Array Oper} (h : chkR T bits all = true) : RegOk T bits all := by
  simp only [chkR, Bool.and_eq_true, List.all_eq_true, List.mem_range] at h
  obtain ⟨h0, h⟩ := h
  have lt : ∀ {j : Nat} {o : Oper}, all[j]? = some o → j < all.size := fun hj => (Array.getElem?_eq_some_iff.1 hj).1
  refine ⟨Region.noSelect_spec h0, fun j o hj e he hb => ?_, fun j i o hj hi ht => ?_, fun i j oi oj hi hj hij ht => ?_⟩
  · have := h j (lt hj)
    simp only [hj, Bool.and_eq_true] at this
    have := Array.all_eq_true_iff_forall_mem.1 this.1 e he
    simp only [hb, Bool.not_true, Bool.false_or] at this
    exact Nat.le_of_ble_eq_true this
  · have := h j (lt hj)
    simp only [hj, Bool.and_eq_true, List.all_eq_true, List.mem_range] at this
    have := this.2 i hi
    rw [ht, cond_true] at this
    simp only [Bool.and_eq_true] at this
    refine ⟨Nat.le_of_ble_eq_true this.1, ?_⟩
    obtain ⟨e, he, hb⟩ := Array.any_eq_true'.1 this.2
    simp only [Bool.and_eq_true, Bool.or_eq_true, beq_iff_eq] at hb
    exact ⟨e, he, hb.1, hb.2⟩
  · have := h j (lt hj)
    simp only [hj, Bool.and_eq_true, List.all_eq_true, List.mem_range] at this
    have := this.2 i (lt hi)
    rw [ht, cond_false] at this
    have hlt : Nat.blt i j = true := Nat.ble_eq_true_of_le hij
    simp only [hlt, Bool.not_true, Bool.false_or, hi, Bool.and_eq_true, Bool.not_eq_true', Bool.and_eq_false_iff, decide_eq_false_iff_not] at this
    exact ⟨this.1, fun h => this.2.elim (fun f => f h.1) (fun f => f h.2)⟩

section
variable {P : Program} {T : TT} {all : Array Oper} {bits : List Nat}
/-- The slots behind the steps that are listed. -/
def actS (L : Nat → Bool) : Nat → List St → Act → Act
  | _, [], a => a
  | i, s :: ss, a => actS L (i + 1) ss (cond (L i) (a.put s.o.dst s.u) a)
noncomputable def wS (T : TT) (L : Nat → Bool) (wend : World) : Nat → List St → World
  | _, [] => wend
  | i, s :: ss => cond (isE T s && !L i) s.w (wS T L wend (i + 1) ss)

theorem put_size (a : Act) (d : Option Tmp) (v : Value) : (a.put d v).tmps.size = a.tmps.size := by cases d <;> simp [Act.put]
theorem put_get (a : Act) (d : Option Tmp) (v : Value) {t : Nat} (h : d ≠ some t) : (a.put d v).tmps[t]? = a.tmps[t]? := by
  cases d with
  | none => rfl
  | some d => simp only [Act.put]; exact Array.getElem?_setIfInBounds_ne (fun e => h (by rw [e]))
theorem put_congr {a a' : Act} (hs : a.tmps.size = a'.tmps.size) (d : Option Tmp) (v : Value) {t : Nat} (h : a.tmps[t]? = a'.tmps[t]?) : (a.put d v).tmps[t]? = (a'.put d v).tmps[t]? := by
  by_cases hd : d = some t
  · subst hd; simp only [Act.put, Array.getElem?_setIfInBounds_self, hs]
  · rw [put_get _ _ _ hd, put_get _ _ _ hd, h]
theorem actS_get {L L' : Nat → Bool} {t : Nat} : ∀ (ss : List St) (i : Nat) (a a' : Act), a.tmps.size = a'.tmps.size → a.tmps[t]? = a'.tmps[t]? →
    (∀ (j : Nat) (s : St), ss[j]? = some s → s.o.dst = some t → L (i + j) = L' (i + j)) → (actS L i ss a).tmps[t]? = (actS L' i ss a').tmps[t]?
  | [], i, a, a', hs, h, _ => h
  | s :: ss, i, a, a', hs, h, hl => by
    simp only [actS]
    refine actS_get ss (i + 1) _ _ ?_ ?_ fun j s' hj hd => by have := hl (j + 1) s' (by simpa using hj) hd; rwa [show i + (j + 1) = i + 1 + j by omega] at this
    · cases L i <;> cases L' i <;> simp [put_size, hs]
    · by_cases hd : s.o.dst = some t
      · have := hl 0 s (by simp) hd
        simp only [Nat.add_zero] at this
        rw [this]
        cases L' i
        · exact h
        · exact put_congr hs _ _ h
      · cases L i <;> cases L' i <;> simp [put_get _ _ _ hd, h]
theorem actS_put {L : Nat → Bool} {d : Option Tmp} {v : Value} : ∀ (ss : List St) (i : Nat) (a : Act), (∀ (j : Nat) (s : St), ss[j]? = some s → L (i + j) = true → ∀ x, d = some x → s.o.dst ≠ some x) → actS L i ss (a.put d v) = (actS L i ss a).put d v
  | [], _, _, _ => rfl
  | s :: ss, i, a, h => by
    simp only [actS]
    have hr := fun a => actS_put (d := d) (v := v) ss (i + 1) a fun j s' hj hl => h (j + 1) s' (by simpa using hj) (by rw [show i + (j + 1) = i + 1 + j by omega]; exact hl)
    cases hL : L i with
    | false => exact hr a
    | true =>
      simp only [cond_true]
      rw [Act.put_comm a v s.u (h 0 s (by simp) (by simpa using hL))]
      exact hr _
/-- One more. -/
theorem actS_more {L L' : Nat → Bool} {m : Nat} {sm : St} (hm : ∀ k, L' k = (L k || k == m)) (hn : L m = false) : ∀ (ss : List St) (i : Nat) (a : Act), i ≤ m → ss[m - i]? = some sm →
    (∀ (j : Nat) (s : St), ss[j]? = some s → m < i + j → L (i + j) = true → ∀ x, sm.o.dst = some x → s.o.dst ≠ some x) → actS L' i ss a = (actS L i ss a).put sm.o.dst sm.u
  | [], _, _, _, h, _ => by simp at h
  | s :: ss, i, a, hi, h, hx => by
    simp only [actS]
    by_cases he : i = m
    · subst he
      simp only [Nat.sub_self, List.getElem?_cons_zero, Option.some.injEq] at h
      subst h
      have hc : ∀ (l : List St) (k : Nat) (a : Act), i < k → actS L' k l a = actS L k l a := by
        intro l; induction l with
        | nil => intros; rfl
        | cons x l ih =>
          intro k a hk
          simp only [actS]
          rw [ih _ _ (by omega), hm k, show (k == i) = false by simp; omega, Bool.or_false]
      rw [hc _ _ _ (by omega), hm i, hn]
      simp only [beq_self_eq_true, Bool.or_true, cond_true, cond_false]
      exact actS_put ss (i + 1) a fun j s' hj hl => hx (j + 1) s' (by simpa using hj) (by omega) (by rw [show i + (j + 1) = i + 1 + j by omega]; exact hl)
    · rw [hm i, show (i == m) = false by simp [he], Bool.or_false]
      refine actS_more hm hn ss (i + 1) _ (by omega) ?_ fun j s' hj hlt hl => hx (j + 1) s' (by simpa using hj) (by omega) (by rw [show i + (j + 1) = i + 1 + j by omega]; exact hl)
      rw [show m - i = (m - (i + 1)) + 1 by omega] at h
      simpa using h
theorem actS_none : ∀ (ss : List St) (i : Nat) (a : Act) (L : Nat → Bool), (∀ k, i ≤ k → L k = false) → actS L i ss a = a
  | [], _, _, _, _ => rfl
  | s :: ss, i, a, L, h => by simp only [actS, h i (Nat.le_refl i), cond_false]; exact actS_none ss (i + 1) a L fun k hk => h k (by omega)

/-! ### What the chain says -/
theorem Chain.step : ∀ {ss : List St} {a w a' w'}, Chain P T all ss a w a' w' → ∀ (j : Nat) (s : St), ss[j]? = some s → StepOk P T all s
  | [], _, _, _, _, _, j, s, h => by simp at h
  | x :: ss, a, w, a', w', hc, 0, s, h => by simp at h; subst h; exact hc.2.2.1
  | x :: ss, a, w, a', w', hc, j + 1, s, h => Chain.step hc.2.2.2 j s (by simpa using h)
theorem Chain.at_ : ∀ {ss : List St} {a w a' w'}, Chain P T all ss a w a' w' → ∀ (i j : Nat) (s : St), ss[j]? = some s → s.a = actS (fun k => decide (k < i + j)) i ss a
  | [], _, _, _, _, _, _, j, s, h => by simp at h
  | x :: ss, a, w, a', w', hc, i, 0, s, h => by
    simp at h; subst h
    rw [hc.1, actS_none _ _ _ _ fun k hk => by simp; omega]
  | x :: ss, a, w, a', w', hc, i, j + 1, s, h => by
    simp only [actS]
    rw [show decide (i < i + (j + 1)) = true by simp, cond_true, show i + (j + 1) = i + 1 + j by omega]
    exact Chain.at_ hc.2.2.2 (i + 1) j s (by simpa using h)
theorem Chain.end_ : ∀ {ss : List St} {a w a' w'}, Chain P T all ss a w a' w' → ∀ (L : Nat → Bool) (i : Nat), (∀ j, j < ss.length → L (i + j) = true) → actS L i ss a = a'
  | [], _, _, _, _, hc, _, _, _ => hc.1
  | x :: ss, a, w, a', w', hc, L, i, h => by
    simp only [actS]
    have h0 := h 0 (by simp)
    simp only [Nat.add_zero] at h0
    rw [h0, cond_true]
    exact Chain.end_ hc.2.2.2 L (i + 1) fun j hj => by have := h (j + 1) (by simp; omega); rwa [show i + (j + 1) = i + 1 + j by omega] at this
theorem StepOk.still {s : St} (h : StepOk P T all s) (he : isE T s = false) : s.w' = s.w := by
  obtain ⟨_, h1, h2⟩ := h
  cases hb : s.b with
  | false => exact (h2 hb).2
  | true =>
    have hf := h1 hb
    simp only [isE, hb, Bool.true_and, decide_eq_false_iff_not] at he
    cases hc : cls T s.o with
    | v => exact (hf.2.1 hc).1
    | r => exact hf.2.2 hc
    | e => exact absurd hc he
theorem wS_start : ∀ {ss : List St} {a w a' w'}, Chain P T all ss a w a' w' → ∀ (L : Nat → Bool) (i : Nat), (∀ (j : Nat) (s : St), ss[j]? = some s → isE T s = true → L (i + j) = false) → wS T L w' i ss = w
  | [], _, _, _, _, hc, _, _, _ => hc.2.symm
  | x :: ss, a, w, a', w', hc, L, i, h => by
    simp only [wS]
    cases hx : isE T x with
    | true =>
      have h0 := h 0 x (by simp) hx
      simp only [Nat.add_zero] at h0
      rw [h0]
      simpa using hc.2.1
    | false =>
      simp only [Bool.false_and, cond_false]
      rw [wS_start hc.2.2.2 L (i + 1) fun j s hj he => by have := h (j + 1) s (by simpa using hj) he; rwa [show i + (j + 1) = i + 1 + j by omega] at this]
      rw [hc.2.2.1.still hx, hc.2.1]
theorem wS_end {wend : World} : ∀ (ss : List St) (L : Nat → Bool) (i : Nat), (∀ j, j < ss.length → L (i + j) = true) → wS T L wend i ss = wend
  | [], _, _, _ => rfl
  | x :: ss, L, i, h => by
    have h0 := h 0 (by simp)
    simp only [Nat.add_zero] at h0
    simp only [wS, h0, Bool.not_true, Bool.and_false, cond_false]
    exact wS_end ss L (i + 1) fun j hj => by have := h (j + 1) (by simp; omega); rwa [show i + (j + 1) = i + 1 + j by omega] at this
theorem wS_same {wend : World} {L L' : Nat → Bool} : ∀ (ss : List St) (i : Nat), (∀ (j : Nat) (s : St), ss[j]? = some s → isE T s = true → L (i + j) = L' (i + j)) → wS T L wend i ss = wS T L' wend i ss
  | [], _, _ => rfl
  | x :: ss, i, h => by
    simp only [wS]
    have ih : wS T L wend (i + 1) ss = wS T L' wend (i + 1) ss := wS_same ss (i + 1) fun j s hj he => by have := h (j + 1) s (by simpa using hj) he; rwa [show i + (j + 1) = i + 1 + j by omega] at this
    cases hx : isE T x with
    | true => have := h 0 x (by simp) hx; simp only [Nat.add_zero] at this; rw [this, ih]
    | false => rw [ih, Bool.false_and, Bool.false_and]
/-- The first that has not come. -/
theorem wS_E {m : Nat} {sm : St} (he : isE T sm = true) : ∀ {ss : List St} {a w a' w'}, Chain P T all ss a w a' w' → ∀ (L L' : Nat → Bool) (i : Nat), i ≤ m → ss[m - i]? = some sm → L m = false → L' m = true →
    (∀ (j : Nat) (s : St), ss[j]? = some s → isE T s = true → i + j < m → L (i + j) = true ∧ L' (i + j) = true) → (∀ (j : Nat) (s : St), ss[j]? = some s → isE T s = true → m < i + j → L' (i + j) = false) →
    wS T L w' i ss = sm.w ∧ wS T L' w' i ss = sm.w'
  | [], _, _, _, _, _, _, _, _, _, h, _, _, _, _ => by simp at h
  | x :: ss, a, w, a', w', hc, L, L', i, hi, h, h1, h2, h3, h4 => by
    simp only [wS]
    by_cases hm : i = m
    · subst hm
      simp only [Nat.sub_self, List.getElem?_cons_zero, Option.some.injEq] at h
      subst h
      simp only [he, h1, h2, Bool.not_false, Bool.and_self, cond_true, Bool.not_true, Bool.and_false, cond_false, true_and]
      exact wS_start hc.2.2.2 L' (i + 1) fun j s hj hs => by have := h4 (j + 1) s (by simpa using hj) hs (by omega); rwa [show i + (j + 1) = i + 1 + j by omega] at this
    · have hx : (isE T x && !L i) = false ∧ (isE T x && !L' i) = false := by
        cases hx : isE T x with
        | false => simp
        | true => have := h3 0 x (by simp) hx (by omega); simp only [Nat.add_zero] at this; simp [this.1, this.2]
      rw [hx.1, hx.2, cond_false, cond_false]
      refine wS_E he hc.2.2.2 L L' (i + 1) (by omega) ?_ h1 h2 (fun j s hj hs hlt => ?_) fun j s hj hs hlt => ?_
      · rw [show m - i = (m - (i + 1)) + 1 by omega] at h; simpa using h
      · have := h3 (j + 1) s (by simpa using hj) hs (by omega); rwa [show i + (j + 1) = i + 1 + j by omega] at this
      · have := h4 (j + 1) s (by simpa using hj) hs (by omega); rwa [show i + (j + 1) = i + 1 + j by omega] at this
theorem wS_X : ∀ {ss : List St} {a w a' w'}, Chain P T all ss a w a' w' → ∀ (L : Nat → Bool) (i : Nat), wS T L w' i ss = w ∨ ∃ (j : Nat) (s : St), ss[j]? = some s ∧ isE T s = true ∧ L (i + j) = true ∧ wS T L w' i ss = s.w'
  | [], _, _, _, _, hc, _, _ => .inl hc.2.symm
  | x :: ss, a, w, a', w', hc, L, i => by
    simp only [wS]
    have ih := wS_X hc.2.2.2 L (i + 1)
    cases hx : isE T x with
    | false =>
      simp only [Bool.false_and, cond_false]
      rcases ih with ih | ⟨j, s, h1, h2, h3, h4⟩
      · exact .inl (by rw [ih, hc.2.2.1.still hx, hc.2.1])
      · exact .inr ⟨j + 1, s, by simpa using h1, h2, by rw [show i + (j + 1) = i + 1 + j by omega]; exact h3, h4⟩
    | true =>
      cases hL : L i with
      | false => exact .inl (by simpa using hc.2.1)
      | true =>
        simp only [Bool.not_true, Bool.and_false, cond_false]
        rcases ih with ih | ⟨j, s, h1, h2, h3, h4⟩
        · exact .inr ⟨0, x, by simp, hx, by simpa using hL, ih⟩
        · exact .inr ⟨j + 1, s, by simpa using h1, h2, by rw [show i + (j + 1) = i + 1 + j by omega]; exact h3, h4⟩
/-- A read sees its own world, or one of which the checks speak. -/
theorem wS_R {m : Nat} {sm : St} (hr : isE T sm = false) : ∀ {ss : List St} {a w a' w'}, Chain P T all ss a w a' w' → ∀ (L : Nat → Bool) (i : Nat), i ≤ m → ss[m - i]? = some sm →
    wS T L w' i ss = sm.w ∨ (∃ (j : Nat) (s : St), ss[j]? = some s ∧ isE T s = true ∧ i + j < m ∧ L (i + j) = false ∧ wS T L w' i ss = s.w) ∨
      ∃ (j : Nat) (s : St), ss[j]? = some s ∧ isE T s = true ∧ m < i + j ∧ L (i + j) = true ∧ wS T L w' i ss = s.w'
  | [], _, _, _, _, _, _, _, _, h => by simp at h
  | x :: ss, a, w, a', w', hc, L, i, hi, h => by
    by_cases hm : i = m
    · subst hm
      simp only [Nat.sub_self, List.getElem?_cons_zero, Option.some.injEq] at h
      subst h
      rcases wS_X hc L i with h | ⟨j, s, h1, h2, h3, h4⟩
      · exact .inl (by rw [h, hc.2.1])
      · refine .inr (.inr ⟨j, s, h1, h2, ?_, h3, h4⟩)
        cases j with
        | zero => simp at h1; subst h1; rw [hr] at h2; cases h2
        | succ j => omega
    · simp only [wS]
      have ih := wS_R (m := m) hr hc.2.2.2 L (i + 1) (by omega) (by rw [show m - i = (m - (i + 1)) + 1 by omega] at h; simpa using h)
      cases hx : (isE T x && !L i) with
      | true =>
        simp only [Bool.and_eq_true, Bool.not_eq_true'] at hx
        exact .inr (.inl ⟨0, x, by simp, hx.1, by omega, by simpa using hx.2, rfl⟩)
      | false =>
        simp only [cond_false]
        rcases ih with ih | ⟨j, s, h1, h2, h3, h4, h5⟩ | ⟨j, s, h1, h2, h3, h4, h5⟩
        · exact .inl ih
        · exact .inr (.inl ⟨j + 1, s, by simpa using h1, h2, by omega, by rw [show i + (j + 1) = i + 1 + j by omega]; exact h4, h5⟩)
        · exact .inr (.inr ⟨j + 1, s, by simpa using h1, h2, by omega, by rw [show i + (j + 1) = i + 1 + j by omega]; exact h4, h5⟩)
/-! ### What the checks say -/
theorem Checks.back : ∀ {ss : List St} {i : Nat} {hist pend}, Checks P T bits i ss hist pend → ∀ (m : Nat) (sm : St), ss[m]? = some sm → isR T sm = true → 
    (∀ p ∈ hist, unord bits p.1 (i + m) = true → ResAt P sm p.2) ∧ ∀ (j : Nat) (s : St), ss[j]? = some s → isE T s = true → j < m → unord bits (i + j) (i + m) = true → ResAt P sm s.w
  | [], _, _, _, _, m, sm, h, _ => by simp at h
  | x :: ss, i, hist, pend, hc, 0, sm, h, hr => by
    simp at h; subst h
    exact ⟨fun p hp hu => hc.1 hr p hp hu, fun j s _ _ hj => absurd hj (by omega)⟩
  | x :: ss, i, hist, pend, hc, m + 1, sm, h, hr => by
    obtain ⟨h1, h2⟩ := Checks.back hc.2.2 m sm (by simpa using h) hr
    rw [show i + 1 + m = i + (m + 1) by omega] at h1 h2
    refine ⟨fun p hp hu => h1 p (by split <;> simp [hp]) hu, fun j s hj he hlt hu => ?_⟩
    cases j with
    | zero =>
      simp at hj; subst hj
      exact h1 (i, x.w) (by simp [he]) (by simpa using hu)
    | succ j => exact h2 j s (by simpa using hj) he (by omega) (by rwa [show i + 1 + j = i + (j + 1) by omega])
theorem Checks.fore : ∀ {ss : List St} {i : Nat} {hist pend}, Checks P T bits i ss hist pend → ∀ (m : Nat) (sm : St), ss[m]? = some sm → isE T sm = true → 
    (∀ q ∈ pend, unord bits q.1 (i + m) = true → ResAt P q.2 sm.w') ∧ ∀ (j : Nat) (s : St), ss[j]? = some s → isR T s = true → j < m → unord bits (i + j) (i + m) = true → ResAt P s sm.w'
  | [], _, _, _, _, m, sm, h, _ => by simp at h
  | x :: ss, i, hist, pend, hc, 0, sm, h, hr => by
    simp at h; subst h
    exact ⟨fun p hp hu => hc.2.1 hr p hp hu, fun j s _ _ hj => absurd hj (by omega)⟩
  | x :: ss, i, hist, pend, hc, m + 1, sm, h, hr => by
    obtain ⟨h1, h2⟩ := Checks.fore hc.2.2 m sm (by simpa using h) hr
    rw [show i + 1 + m = i + (m + 1) by omega] at h1 h2
    refine ⟨fun p hp hu => h1 p (by split <;> simp [hp]) hu, fun j s hj he hlt hu => ?_⟩
    cases j with
    | zero =>
      simp at hj; subst hj
      exact h1 (i, x) (by simp [he]) (by simpa using hu)
    | succ j => exact h2 j s (by simpa using hj) he (by omega) (by rwa [show i + 1 + j = i + (j + 1) by omega])
end
end Go.Proofs.Ytdcdgmiojlldaaa.Big
