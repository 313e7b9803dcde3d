/- Drop: without snapshots. -/
import Derived.Test.YtoilmnplocfipaaD3
namespace Go.Proofs.Ytoilmnplocfipaa.Dr
open Go Big Go.RowKit Go.IntWalk Ik
set_option linter.unusedVariables false
set_option linter.unusedSimpArgs false
theorem least_cons {last : Bool} {y : En} {l : List En} : least last (y :: l) = if last = true ∧ y.kind = 0 then leastR last y.key l else y :: leastR last y.key l := rfl
theorem leastR_cons {last : Bool} {k : List Int} {y : En} {l : List En} : leastR last k (y :: l) = if y.key = k ∨ (last = true ∧ y.kind = 0) then leastR last y.key l else y :: leastR last y.key l := rfl
/-- What is to come, from a place on. -/
def more (last : Bool) (l : List En) (i : Nat) : List En :=
  match i with
  | 0 => least last l
  | i + 1 => match l[i]? with
    | some p => leastR last p.key (l.drop (i + 1))
    | none => []
def skips (last : Bool) (l : List En) (i : Nat) (y : En) : Prop := (∃ p, 0 < i ∧ l[i - 1]? = some p ∧ p.key = y.key) ∨ (last = true ∧ y.kind = 0)
theorem more_skip {last : Bool} {l : List En} {i : Nat} {y : En} (hy : l[i]? = some y) (h : skips last l i y) : more last l (i + 1) = more last l i := by
  have hd : l.drop i = y :: l.drop (i + 1) := by
    obtain ⟨hlt, he⟩ := List.getElem?_eq_some_iff.1 hy
    rw [List.drop_eq_getElem_cons hlt, he]
  have e1 : more last l (i + 1) = leastR last y.key (l.drop (i + 1)) := by simp only [more, hy]
  rw [e1]
  cases i with
  | zero =>
    rcases h with ⟨p, h0, _⟩ | h
    · omega
    · rw [List.drop_zero] at hd
      show _ = least last l
      conv => rhs; rw [hd, least_cons, if_pos h]
  | succ i =>
    obtain ⟨p, hp⟩ : ∃ p, l[i]? = some p := ⟨_, List.getElem?_eq_getElem (by have := (List.getElem?_eq_some_iff.1 hy).1; omega)⟩
    simp only [more, hp, hd]
    have h' : y.key = p.key ∨ (last = true ∧ y.kind = 0) := by
      rcases h with ⟨p', _, h1, h2⟩ | h
      · rw [show i + 1 - 1 = i by omega, hp] at h1; injection h1 with h1; subst h1; exact .inl h2.symm
      · exact .inr h
    rw [leastR_cons, if_pos h']
theorem more_keep {last : Bool} {l : List En} {i : Nat} {y : En} (hy : l[i]? = some y) (h : ¬ skips last l i y) : more last l i = y :: more last l (i + 1) := by
  have hd : l.drop i = y :: l.drop (i + 1) := by
    obtain ⟨hlt, he⟩ := List.getElem?_eq_some_iff.1 hy
    rw [List.drop_eq_getElem_cons hlt, he]
  have e1 : more last l (i + 1) = leastR last y.key (l.drop (i + 1)) := by simp only [more, hy]
  rw [e1]
  cases i with
  | zero =>
    rw [List.drop_zero] at hd
    show least last l = _
    conv => lhs; rw [hd, least_cons, if_neg (fun h' => h (.inr h'))]
  | succ i =>
    obtain ⟨p, hp⟩ : ∃ p, l[i]? = some p := ⟨_, List.getElem?_eq_getElem (by have := (List.getElem?_eq_some_iff.1 hy).1; omega)⟩
    simp only [more, hp, hd]
    rw [leastR_cons, if_neg (fun h' => h (h'.imp (fun e => ⟨p, by omega, by rw [show i + 1 - 1 = i by omega]; exact hp, e.symm⟩) id))]
theorem more_end {last : Bool} {l : List En} : more last l l.length = [] := by
  cases hl : l.length with
  | zero => rw [List.length_eq_zero_iff.1 hl]; rfl
  | succ i =>
    show (match l[i]? with | some p => leastR last p.key (l.drop (i + 1)) | none => []) = []
    rw [List.drop_of_length_le (by omega)]
    cases l[i]? <;> rfl
section
variable {α : Type} {Q : α → Prop} {n base : Nat} {w w0 w' : World} {A B C D : Option Addr} {l c m d a1 a2 b1 b2 : Nat} {s k s' k' : Int} {x y : En} {xs ys zs : List En} {ss : List Int} {v : Value}
theorem DropLeast_l0 (hx : Ev enEl w A l c xs) (hy : Ev enEl w B m d ys) (hl : l ≤ 2 ^ 20) (hm : m ≤ 2 ^ 20) {last : Bool} : ∀ (q i k j : Nat) (w' : World), i + q = l → q < j → Kp w w' → ys.drop k = more last xs i → k ≤ m →
    Rt (butterylaw21_DropLeast.l0 n j A l c last B m d (k : Int) (i : Int) w') fun r => Kp w r.w ∧ r.ex = .exit 0 ∧ r.vals = [.slice B m d, .int .i64 (m : Int)] := by
  have hxl := hx.len
  have hyl := hy.len
  intro q
  induction q with
  | zero =>
    intro i k j w' hi hj hk he hkm
    obtain ⟨j, rfl⟩ : ∃ j', j = j' + 1 := ⟨j - 1, by omega⟩
    rw [butterylaw21_DropLeast.l0_succ]
    have : i = xs.length := by omega
    rw [this, more_end] at he
    have h2 := congrArg List.length he
    rw [List.length_drop] at h2
    simp at h2
    obtain rfl : k = m := by omega
    exact Rt.cDF (by omega) (Rt.some' ⟨hk, rfl, rfl⟩)
  | succ q ih =>
    intro i k j w' hi hj hk he hkm
    obtain ⟨j, rfl⟩ : ∃ j', j = j' + 1 := ⟨j - 1, by omega⟩
    obtain ⟨y, ey⟩ : ∃ y, xs[i]? = some y := ⟨_, List.getElem?_eq_getElem (by omega)⟩
    have hkd := hk.dr
    -- the entry is passed over
    have skip : ∀ w2, Kp w w2 → skips last xs i y → Rt (some (⟨.exit 1, [.slice A l c, .bool last, .slice B m d, .int .i64 k, .int .i64 i], w2⟩ : Res)) fun r => (r.ex = .norm ∨ r.ex = .exit 1) ∧ Rt (Big.tC r.vals fun v103 cs104 => Big.tL v103 fun A105 l106 c107 => Big.tC cs104 fun v108 cs109 => Big.tB v108 fun b110 => Big.tC cs109 fun v111 cs112 => Big.tL v111 fun A113 l114 c115 => Big.tC cs112 fun v116 cs117 => Big.tI .i64 v116 fun n118 => Big.tC cs117 fun v119 cs120 => Big.tI .i64 v119 fun n121 => Big.tN cs120 (butterylaw21_DropLeast.l0 n j A105 l106 c107 b110 A113 l114 c115 n118 (IntKind.i64.wrap (n121 + 1)) r.w)) (fun r => Kp w r.w ∧ r.ex = .exit 0 ∧ r.vals = [.slice B m d, .int .i64 (m : Int)]) ∨ r.ex = .ret ∧ (Kp w r.w ∧ r.ex = .exit 0 ∧ r.vals = [.slice B m d, .int .i64 (m : Int)]) := by
      intro w2 k2 hs
      refine Rt.some' (.inl ⟨.inr rfl, ?_⟩)
      (repeat (first | (with_reducible (first | refine Rt.fin ?_ | refine Rt.tL ?_ | refine Rt.tI ?_ | refine Rt.tB ?_ | refine Rt.tS ?_ | refine Rt.tP ?_ | refine Rt.tD ?_ | refine Rt.tM ?_ | refine Rt.tC ?_ | refine Rt.tN ?_ | refine Rt.tA ?_ | refine Rt.tG ?_ | refine Rt.tF ?_ | refine Rt.os ?_ | refine Rt.clS ?_ | refine Rt.jmN ?_ | refine Rt.jbN ?_ | refine Rt.jbE ?_)) | ((with_reducible (first | apply Rt.ld0 | apply Rt.ld1 | apply Rt.ld2 | apply Rt.ld3 | apply Rt.ld4 | apply Rt.ld5)); first | assumption | exact Lc.kp (by assumption) (by assumption)) | ((with_reducible apply Rt.ol); first | assumption | exact cell_kp (by assumption) (by assumption)) | ((with_reducible apply Rt.ckR); focus ((repeat (first | (with_reducible (first | refine Rt.fin ?_ | refine Rt.tL ?_ | refine Rt.tI ?_ | refine Rt.tB ?_ | refine Rt.tS ?_ | refine Rt.tP ?_ | refine Rt.tD ?_ | refine Rt.tM ?_ | refine Rt.tC ?_ | refine Rt.tN ?_ | refine Rt.tA ?_ | refine Rt.tG ?_ | refine Rt.tF ?_ | refine Rt.os ?_ | refine Rt.clS ?_ | refine Rt.jmN ?_ | refine Rt.jbN ?_ | refine Rt.jbE ?_)) | ((with_reducible (first | apply Rt.ld0 | apply Rt.ld1 | apply Rt.ld2 | apply Rt.ld3 | apply Rt.ld4 | apply Rt.ld5)); first | assumption | exact Lc.kp (by assumption) (by assumption)) | ((with_reducible apply Rt.ol); first | assumption | exact cell_kp (by assumption) (by assumption)))); exact Rt.some' rfl))))
      rw [i64_in _ (by omega), show ((i : Int) + 1) = ((i + 1 : Nat) : Int) by omega]
      exact ih (i + 1) k j w2 (by omega) (by omega) k2 (by rw [he, more_skip ey hs]) hkm
    rw [butterylaw21_DropLeast.l0_succ]
    refine Rt.cDT (by omega) (Rt.jb (Rt.jmX (Rt.mono (Q' := fun r => Kp w r.w ∧ r.vals = [.slice A l c, .bool last, .slice B m d, .int .i64 k, .int .i64 i] ∧ (r.ex = .norm ∧ ¬ skips last xs i y ∨ r.ex = .exit 1 ∧ skips last xs i y)) ?_ ?_)))
    · have kd : ∀ w2, Kp w w2 → ¬ (∃ p, 0 < i ∧ xs[i - 1]? = some p ∧ p.key = y.key) → Rt (cond last (ixA A l i 4 fun ad43 => opt (w2.cell? (Addr.add ad43 2)) fun v44 => Big.tI .i64 v44 fun n45 => cond (n45 == 0) (some (⟨.exit 1, [.slice A l c, .bool last, .slice B m d, .int .i64 k, .int .i64 i], w2⟩ : Res)) (some ⟨.norm, [.slice A l c, .bool last, .slice B m d, .int .i64 k, .int .i64 i], w2⟩)) (some ⟨.norm, [.slice A l c, .bool last, .slice B m d, .int .i64 k, .int .i64 i], w2⟩)) (fun r => Kp w r.w ∧ r.vals = [.slice A l c, .bool last, .slice B m d, .int .i64 k, .int .i64 i] ∧ (r.ex = .norm ∧ ¬ skips last xs i y ∨ r.ex = .exit 1 ∧ skips last xs i y)) := by
        intro w2 k2 hnk
        cases last with
        | false => exact Rt.cF rfl (Rt.some' ⟨k2, rfl, .inl ⟨rfl, fun h => h.elim hnk fun h => by cases h.1⟩⟩)
        | true =>
          refine Rt.cT rfl (Rt.ixN (hx.kp k2).sl (by omega) (by omega) fun y' a B1 b1 b2 s k C1 c1 c2 ey' hv g0 g1 g2 g3 => ?_)
          have ey' : xs[i]? = some y' := by simpa using ey'
          rw [ey] at ey'
          injection ey' with ey'
          subst ey'
          have hkd := hv.kind
          (repeat (first | (with_reducible (first | refine Rt.fin ?_ | refine Rt.tL ?_ | refine Rt.tI ?_ | refine Rt.tB ?_ | refine Rt.tS ?_ | refine Rt.tP ?_ | refine Rt.tD ?_ | refine Rt.tM ?_ | refine Rt.tC ?_ | refine Rt.tN ?_ | refine Rt.tA ?_ | refine Rt.tG ?_ | refine Rt.tF ?_ | refine Rt.os ?_ | refine Rt.clS ?_ | refine Rt.jmN ?_ | refine Rt.jbN ?_ | refine Rt.jbE ?_)) | ((with_reducible (first | apply Rt.ld0 | apply Rt.ld1 | apply Rt.ld2 | apply Rt.ld3 | apply Rt.ld4 | apply Rt.ld5)); first | assumption | exact Lc.kp (by assumption) (by assumption)) | ((with_reducible apply Rt.ol); first | assumption | exact cell_kp (by assumption) (by assumption)) | ((with_reducible apply Rt.ckR); focus ((repeat (first | (with_reducible (first | refine Rt.fin ?_ | refine Rt.tL ?_ | refine Rt.tI ?_ | refine Rt.tB ?_ | refine Rt.tS ?_ | refine Rt.tP ?_ | refine Rt.tD ?_ | refine Rt.tM ?_ | refine Rt.tC ?_ | refine Rt.tN ?_ | refine Rt.tA ?_ | refine Rt.tG ?_ | refine Rt.tF ?_ | refine Rt.os ?_ | refine Rt.clS ?_ | refine Rt.jmN ?_ | refine Rt.jbN ?_ | refine Rt.jbE ?_)) | ((with_reducible (first | apply Rt.ld0 | apply Rt.ld1 | apply Rt.ld2 | apply Rt.ld3 | apply Rt.ld4 | apply Rt.ld5)); first | assumption | exact Lc.kp (by assumption) (by assumption)) | ((with_reducible apply Rt.ol); first | assumption | exact cell_kp (by assumption) (by assumption)))); exact Rt.some' rfl))))
          refine Rt.cQ (fun h => ?_) fun h => ?_
          · exact Rt.some' ⟨k2, rfl, .inr ⟨rfl, .inr ⟨rfl, by omega⟩⟩⟩
          · exact Rt.some' ⟨k2, rfl, .inl ⟨rfl, fun h' => h'.elim hnk fun h' => h (by rw [hkd]; exact h'.2)⟩⟩
      refine Rt.cD (fun h0 => ?_) fun h0 => kd _ hkd (by rintro ⟨p, h1, _⟩; omega)
      rw [i64_in ((i : Int) - 1) (by omega)]
      refine Rt.ixN (hx.kp hkd).sl (by omega) (by omega) fun p a B1 b1 b2 s' k' C1 c1 c2 ep hv g0 g1 g2 g3 => ?_
      have ep : xs[i - 1]? = some p := by rw [← ep]; congr 1; omega
      (repeat (first | (with_reducible (first | refine Rt.fin ?_ | refine Rt.tL ?_ | refine Rt.tI ?_ | refine Rt.tB ?_ | refine Rt.tS ?_ | refine Rt.tP ?_ | refine Rt.tD ?_ | refine Rt.tM ?_ | refine Rt.tC ?_ | refine Rt.tN ?_ | refine Rt.tA ?_ | refine Rt.tG ?_ | refine Rt.tF ?_ | refine Rt.os ?_ | refine Rt.clS ?_ | refine Rt.jmN ?_ | refine Rt.jbN ?_ | refine Rt.jbE ?_)) | ((with_reducible (first | apply Rt.ld0 | apply Rt.ld1 | apply Rt.ld2 | apply Rt.ld3 | apply Rt.ld4 | apply Rt.ld5)); first | assumption | exact Lc.kp (by assumption) (by assumption)) | ((with_reducible apply Rt.ol); first | assumption | exact cell_kp (by assumption) (by assumption)) | ((with_reducible apply Rt.ckR); focus ((repeat (first | (with_reducible (first | refine Rt.fin ?_ | refine Rt.tL ?_ | refine Rt.tI ?_ | refine Rt.tB ?_ | refine Rt.tS ?_ | refine Rt.tP ?_ | refine Rt.tD ?_ | refine Rt.tM ?_ | refine Rt.tC ?_ | refine Rt.tN ?_ | refine Rt.tA ?_ | refine Rt.tG ?_ | refine Rt.tF ?_ | refine Rt.os ?_ | refine Rt.clS ?_ | refine Rt.jmN ?_ | refine Rt.jbN ?_ | refine Rt.jbE ?_)) | ((with_reducible (first | apply Rt.ld0 | apply Rt.ld1 | apply Rt.ld2 | apply Rt.ld3 | apply Rt.ld4 | apply Rt.ld5)); first | assumption | exact Lc.kp (by assumption) (by assumption)) | ((with_reducible apply Rt.ol); first | assumption | exact cell_kp (by assumption) (by assumption)))); exact Rt.some' rfl))))
      refine Rt.str hv.key ?_
      refine Rt.ixN (hx.kp hkd).sl (by omega) (by omega) fun y' a B1 b1 b2 s'' k'' C1 c1 c2 ey' hv' g0 g1 g2 g3 => ?_
      have ey' : xs[i]? = some y' := by simpa using ey'
      rw [ey] at ey'
      injection ey' with ey'
      subst ey'
      (repeat (first | (with_reducible (first | refine Rt.fin ?_ | refine Rt.tL ?_ | refine Rt.tI ?_ | refine Rt.tB ?_ | refine Rt.tS ?_ | refine Rt.tP ?_ | refine Rt.tD ?_ | refine Rt.tM ?_ | refine Rt.tC ?_ | refine Rt.tN ?_ | refine Rt.tA ?_ | refine Rt.tG ?_ | refine Rt.tF ?_ | refine Rt.os ?_ | refine Rt.clS ?_ | refine Rt.jmN ?_ | refine Rt.jbN ?_ | refine Rt.jbE ?_)) | ((with_reducible (first | apply Rt.ld0 | apply Rt.ld1 | apply Rt.ld2 | apply Rt.ld3 | apply Rt.ld4 | apply Rt.ld5)); first | assumption | exact Lc.kp (by assumption) (by assumption)) | ((with_reducible apply Rt.ol); first | assumption | exact cell_kp (by assumption) (by assumption)) | ((with_reducible apply Rt.ckR); focus ((repeat (first | (with_reducible (first | refine Rt.fin ?_ | refine Rt.tL ?_ | refine Rt.tI ?_ | refine Rt.tB ?_ | refine Rt.tS ?_ | refine Rt.tP ?_ | refine Rt.tD ?_ | refine Rt.tM ?_ | refine Rt.tC ?_ | refine Rt.tN ?_ | refine Rt.tA ?_ | refine Rt.tG ?_ | refine Rt.tF ?_ | refine Rt.os ?_ | refine Rt.clS ?_ | refine Rt.jmN ?_ | refine Rt.jbN ?_ | refine Rt.jbE ?_)) | ((with_reducible (first | apply Rt.ld0 | apply Rt.ld1 | apply Rt.ld2 | apply Rt.ld3 | apply Rt.ld4 | apply Rt.ld5)); first | assumption | exact Lc.kp (by assumption) (by assumption)) | ((with_reducible apply Rt.ol); first | assumption | exact cell_kp (by assumption) (by assumption)))); exact Rt.some' rfl))))
      refine Rt.str hv'.key (Rt.cS hv.key.rng hv'.key.rng (fun h => ?_) fun h => ?_)
      · exact Rt.some' ⟨hkd, rfl, .inr ⟨rfl, .inl ⟨p, by omega, ep, h⟩⟩⟩
      · refine kd _ hkd ?_
        rintro ⟨p', _, h1, h2⟩
        rw [ep] at h1
        injection h1 with h1
        subst h1
        exact h h2
    · rintro ⟨ex, vs, w2⟩ ⟨k2, h2, ⟨h3, h4⟩ | ⟨h3, h4⟩⟩
      · dsimp only at k2 h2 h3
        subst h2 h3
        refine .inl ⟨rfl, ?_⟩
        dsimp only
        (repeat (first | (with_reducible (first | refine Rt.fin ?_ | refine Rt.tL ?_ | refine Rt.tI ?_ | refine Rt.tB ?_ | refine Rt.tS ?_ | refine Rt.tP ?_ | refine Rt.tD ?_ | refine Rt.tM ?_ | refine Rt.tC ?_ | refine Rt.tN ?_ | refine Rt.tA ?_ | refine Rt.tG ?_ | refine Rt.tF ?_ | refine Rt.os ?_ | refine Rt.clS ?_ | refine Rt.jmN ?_ | refine Rt.jbN ?_ | refine Rt.jbE ?_)) | ((with_reducible (first | apply Rt.ld0 | apply Rt.ld1 | apply Rt.ld2 | apply Rt.ld3 | apply Rt.ld4 | apply Rt.ld5)); first | assumption | exact Lc.kp (by assumption) (by assumption)) | ((with_reducible apply Rt.ol); first | assumption | exact cell_kp (by assumption) (by assumption)) | ((with_reducible apply Rt.ckR); focus ((repeat (first | (with_reducible (first | refine Rt.fin ?_ | refine Rt.tL ?_ | refine Rt.tI ?_ | refine Rt.tB ?_ | refine Rt.tS ?_ | refine Rt.tP ?_ | refine Rt.tD ?_ | refine Rt.tM ?_ | refine Rt.tC ?_ | refine Rt.tN ?_ | refine Rt.tA ?_ | refine Rt.tG ?_ | refine Rt.tF ?_ | refine Rt.os ?_ | refine Rt.clS ?_ | refine Rt.jmN ?_ | refine Rt.jbN ?_ | refine Rt.jbE ?_)) | ((with_reducible (first | apply Rt.ld0 | apply Rt.ld1 | apply Rt.ld2 | apply Rt.ld3 | apply Rt.ld4 | apply Rt.ld5)); first | assumption | exact Lc.kp (by assumption) (by assumption)) | ((with_reducible apply Rt.ol); first | assumption | exact cell_kp (by assumption) (by assumption)))); exact Rt.some' rfl))))
        have k2d := k2.dr
        rw [more_keep ey h4] at he
        have hyk : ys[k]? = some y := by
          have := List.getElem?_drop (xs := ys) (i := k) (j := 0)
          rw [he] at this; simpa using this.symm
        have hklt := (List.getElem?_eq_some_iff.1 hyk).1
        refine Rt.cDF (by omega) (Rt.ixN (hy.kp k2d).sl (by omega) (by omega) fun y1 a B1 b1 b2 s' k' C1 c1 c2 e1 hv g0 g1 g2 g3 => ?_)
        have e1 : ys[k]? = some y1 := by simpa using e1
        rw [hyk] at e1
        injection e1 with e1
        subst e1
        (repeat (first | (with_reducible (first | refine Rt.fin ?_ | refine Rt.tL ?_ | refine Rt.tI ?_ | refine Rt.tB ?_ | refine Rt.tS ?_ | refine Rt.tP ?_ | refine Rt.tD ?_ | refine Rt.tM ?_ | refine Rt.tC ?_ | refine Rt.tN ?_ | refine Rt.tA ?_ | refine Rt.tG ?_ | refine Rt.tF ?_ | refine Rt.os ?_ | refine Rt.clS ?_ | refine Rt.jmN ?_ | refine Rt.jbN ?_ | refine Rt.jbE ?_)) | ((with_reducible (first | apply Rt.ld0 | apply Rt.ld1 | apply Rt.ld2 | apply Rt.ld3 | apply Rt.ld4 | apply Rt.ld5)); first | assumption | exact Lc.kp (by assumption) (by assumption)) | ((with_reducible apply Rt.ol); first | assumption | exact cell_kp (by assumption) (by assumption)) | ((with_reducible apply Rt.ckR); focus ((repeat (first | (with_reducible (first | refine Rt.fin ?_ | refine Rt.tL ?_ | refine Rt.tI ?_ | refine Rt.tB ?_ | refine Rt.tS ?_ | refine Rt.tP ?_ | refine Rt.tD ?_ | refine Rt.tM ?_ | refine Rt.tC ?_ | refine Rt.tN ?_ | refine Rt.tA ?_ | refine Rt.tG ?_ | refine Rt.tF ?_ | refine Rt.os ?_ | refine Rt.clS ?_ | refine Rt.jmN ?_ | refine Rt.jbN ?_ | refine Rt.jbE ?_)) | ((with_reducible (first | apply Rt.ld0 | apply Rt.ld1 | apply Rt.ld2 | apply Rt.ld3 | apply Rt.ld4 | apply Rt.ld5)); first | assumption | exact Lc.kp (by assumption) (by assumption)) | ((with_reducible apply Rt.ol); first | assumption | exact cell_kp (by assumption) (by assumption)))); exact Rt.some' rfl))))
        refine Rt.ixN (hx.kp k2d).sl (by omega) (by omega) fun y' a B1 b1 b2 s'' k'' C1 c1 c2 ey' hv' g0 g1 g2 g3 => ?_
        have ey' : xs[i]? = some y' := by simpa using ey'
        rw [ey] at ey'
        injection ey' with ey'
        subst ey'
        (repeat (first | (with_reducible (first | refine Rt.fin ?_ | refine Rt.tL ?_ | refine Rt.tI ?_ | refine Rt.tB ?_ | refine Rt.tS ?_ | refine Rt.tP ?_ | refine Rt.tD ?_ | refine Rt.tM ?_ | refine Rt.tC ?_ | refine Rt.tN ?_ | refine Rt.tA ?_ | refine Rt.tG ?_ | refine Rt.tF ?_ | refine Rt.os ?_ | refine Rt.clS ?_ | refine Rt.jmN ?_ | refine Rt.jbN ?_ | refine Rt.jbE ?_)) | ((with_reducible (first | apply Rt.ld0 | apply Rt.ld1 | apply Rt.ld2 | apply Rt.ld3 | apply Rt.ld4 | apply Rt.ld5)); first | assumption | exact Lc.kp (by assumption) (by assumption)) | ((with_reducible apply Rt.ol); first | assumption | exact cell_kp (by assumption) (by assumption)) | ((with_reducible apply Rt.ckR); focus ((repeat (first | (with_reducible (first | refine Rt.fin ?_ | refine Rt.tL ?_ | refine Rt.tI ?_ | refine Rt.tB ?_ | refine Rt.tS ?_ | refine Rt.tP ?_ | refine Rt.tD ?_ | refine Rt.tM ?_ | refine Rt.tC ?_ | refine Rt.tN ?_ | refine Rt.tA ?_ | refine Rt.tG ?_ | refine Rt.tF ?_ | refine Rt.os ?_ | refine Rt.clS ?_ | refine Rt.jmN ?_ | refine Rt.jbN ?_ | refine Rt.jbE ?_)) | ((with_reducible (first | apply Rt.ld0 | apply Rt.ld1 | apply Rt.ld2 | apply Rt.ld3 | apply Rt.ld4 | apply Rt.ld5)); first | assumption | exact Lc.kp (by assumption) (by assumption)) | ((with_reducible apply Rt.ol); first | assumption | exact cell_kp (by assumption) (by assumption)))); exact Rt.some' rfl))))
        refine Rt.cBt (SameEntry_spec hv hv') rfl fun w3 k3 => Rt.cF rfl (Rt.some' (.inl ⟨.inl rfl, ?_⟩))
        (repeat (first | (with_reducible (first | refine Rt.fin ?_ | refine Rt.tL ?_ | refine Rt.tI ?_ | refine Rt.tB ?_ | refine Rt.tS ?_ | refine Rt.tP ?_ | refine Rt.tD ?_ | refine Rt.tM ?_ | refine Rt.tC ?_ | refine Rt.tN ?_ | refine Rt.tA ?_ | refine Rt.tG ?_ | refine Rt.tF ?_ | refine Rt.os ?_ | refine Rt.clS ?_ | refine Rt.jmN ?_ | refine Rt.jbN ?_ | refine Rt.jbE ?_)) | ((with_reducible (first | apply Rt.ld0 | apply Rt.ld1 | apply Rt.ld2 | apply Rt.ld3 | apply Rt.ld4 | apply Rt.ld5)); first | assumption | exact Lc.kp (by assumption) (by assumption)) | ((with_reducible apply Rt.ol); first | assumption | exact cell_kp (by assumption) (by assumption)) | ((with_reducible apply Rt.ckR); focus ((repeat (first | (with_reducible (first | refine Rt.fin ?_ | refine Rt.tL ?_ | refine Rt.tI ?_ | refine Rt.tB ?_ | refine Rt.tS ?_ | refine Rt.tP ?_ | refine Rt.tD ?_ | refine Rt.tM ?_ | refine Rt.tC ?_ | refine Rt.tN ?_ | refine Rt.tA ?_ | refine Rt.tG ?_ | refine Rt.tF ?_ | refine Rt.os ?_ | refine Rt.clS ?_ | refine Rt.jmN ?_ | refine Rt.jbN ?_ | refine Rt.jbE ?_)) | ((with_reducible (first | apply Rt.ld0 | apply Rt.ld1 | apply Rt.ld2 | apply Rt.ld3 | apply Rt.ld4 | apply Rt.ld5)); first | assumption | exact Lc.kp (by assumption) (by assumption)) | ((with_reducible apply Rt.ol); first | assumption | exact cell_kp (by assumption) (by assumption)))); exact Rt.some' rfl))))
        rw [i64_in ((k : Int) + 1) (by omega), i64_in ((i : Int) + 1) (by omega), show ((i : Int) + 1) = ((i + 1 : Nat) : Int) by omega, show ((k : Int) + 1) = ((k + 1 : Nat) : Int) by omega]
        refine ih (i + 1) (k + 1) j w3 (by omega) (by omega) (k2d.tr k3) ?_ (by omega)
        have := List.drop_drop (i := 1) (j := k) (l := ys)
        rw [he] at this
        simpa using this.symm
      · dsimp only at k2 h2 h3
        subst h2 h3
        refine .inr ⟨by simp, ?_⟩
        obtain ⟨r, e1, e2⟩ := skip w2 k2 h4
        injection e1 with e1
        subst e1
        exact e2
theorem DropLeast_spec (hx : Ev enEl w A l c xs) (hl : l < 2 ^ 63) (hn : 2 ^ 63 < n) {last : Bool} : Rt (butterylaw21_DropLeast n [.slice A l c, .bool last] w) (RB True w) := by
  have hxl := hx.len
  rw [butterylaw21_DropLeast_eq]
  refine Rt.fin (Rt.cBt (alive_spec (by omega)) trivial fun w1 k1 => Rt.cBo (Big_spec (hx.kp k1) hl (by omega)) fun b w2 hb k2 => Rt.cF rfl ?_)
  have k2 := k1.tr k2
  cases b with
  | true => exact Rt.cT rfl (Rt.endB (by simp) k2)
  | false =>
    have hnb : ¬ bigE xs := fun h => by simpa using hb.2 h
    have hL : ∀ z ∈ xs, z.key.length ≤ 300 ∧ z.val.length ≤ 300 := fun z hz => by
      have : ¬ (z.key.length > 300 ∨ z.val.length > 300) := fun h => hnb (.inl ⟨z, hz, h⟩)
      omega
    have hln : xs.length ≤ 60 := by
      have : ¬ (xs.length > 60) := fun h => hnb (.inr h)
      omega
    refine Rt.cF rfl (Rt.cBo (RRising_spec (hx.kp k2) (by omega) (by omega) (fun z hz => by have := hL z hz; omega) fun z hz => by have := hL z hz; omega) fun b w3 hb3 k3 => ?_)
    have k3 := k2.tr k3
    cases b with
    | false => exact Rt.cT rfl (Rt.endB (by simp) k3)
    | true =>
      have hr := hb3.1 rfl
      refine Rt.cF rfl (Rt.cEe (Keep_spec (ss := []) (hx.kp k3) bv_none (fun z hz => by have := hL z hz; omega) (by omega) (by omega) (by omega) (by omega)) fun D e w4 h4 k4 => ?_)
      have e1 : keepR [] last xs = least last xs := by unfold keepR; rw [if_pos hr, keepP_least]
      have e2 : keepE xs = 0 := by unfold keepE; rw [if_pos hr]
      have hlen := (keepP_sub (ss := []) (last := last) xs).length_le
      rw [keepP_least] at hlen
      rw [e1] at h4 ⊢
      rw [e2]
      refine Rt.cI (num_run n _ _) fun w5 k5 => Rt.cN (fun _ => ?_) fun h => absurd rfl h
      have k45 := k4.tr k5
      have k5' := k3.tr k45
      refine Rt.jb (Rt.mono (DropLeast_l0 (n := n) (last := last) (hx.kp k5') (h4.kp k5) (by omega) (by omega) l 0 0 n w5 (by omega) (by omega) (Kp.rfl' _) rfl (Nat.zero_le _)) ?_)
      rintro ⟨ex, vs, w6⟩ ⟨k6, h6, h7⟩
      dsimp only at k6 h6 h7
      subst h6 h7
      refine .inl ⟨.inr rfl, ?_⟩
      (repeat (first | (with_reducible (first | refine Rt.fin ?_ | refine Rt.tL ?_ | refine Rt.tI ?_ | refine Rt.tB ?_ | refine Rt.tS ?_ | refine Rt.tP ?_ | refine Rt.tD ?_ | refine Rt.tM ?_ | refine Rt.tC ?_ | refine Rt.tN ?_ | refine Rt.tA ?_ | refine Rt.tG ?_ | refine Rt.tF ?_ | refine Rt.os ?_ | refine Rt.clS ?_ | refine Rt.jmN ?_ | refine Rt.jbN ?_ | refine Rt.jbE ?_)) | ((with_reducible (first | apply Rt.ld0 | apply Rt.ld1 | apply Rt.ld2 | apply Rt.ld3 | apply Rt.ld4 | apply Rt.ld5)); first | assumption | exact Lc.kp (by assumption) (by assumption)) | ((with_reducible apply Rt.ol); first | assumption | exact cell_kp (by assumption) (by assumption)) | ((with_reducible apply Rt.ckR); focus ((repeat (first | (with_reducible (first | refine Rt.fin ?_ | refine Rt.tL ?_ | refine Rt.tI ?_ | refine Rt.tB ?_ | refine Rt.tS ?_ | refine Rt.tP ?_ | refine Rt.tD ?_ | refine Rt.tM ?_ | refine Rt.tC ?_ | refine Rt.tN ?_ | refine Rt.tA ?_ | refine Rt.tG ?_ | refine Rt.tF ?_ | refine Rt.os ?_ | refine Rt.clS ?_ | refine Rt.jmN ?_ | refine Rt.jbN ?_ | refine Rt.jbE ?_)) | ((with_reducible (first | apply Rt.ld0 | apply Rt.ld1 | apply Rt.ld2 | apply Rt.ld3 | apply Rt.ld4 | apply Rt.ld5)); first | assumption | exact Lc.kp (by assumption) (by assumption)) | ((with_reducible apply Rt.ol); first | assumption | exact cell_kp (by assumption) (by assumption)))); exact Rt.some' rfl))))
      exact Rt.endB (by simp) (k5'.tr k6)
end
end Go.Proofs.Ytoilmnplocfipaa.Dr
