/- Drop: which entries are of one user key, what snapshots see, what stays of one user key. -/
import Derived.Test.YtoilmnplocfipaaK1
import Derived.Test.YtoilmnplocfipaaGD1
namespace Go.Proofs.Ytoilmnplocfipaa.Dr
open Go Big Go.RowKit Go.IntWalk Ik
set_option linter.unusedVariables false
set_option linter.unusedSimpArgs false
/-- How many entries, from the first on, are of its user key. -/
def grp : List En → Nat
  | [] => 0
  | x :: l => 1 + (l.takeWhile fun y => decide (y.key = x.key)).length
def seenP (ss : List Int) (a b : Int) : Prop := ∃ s ∈ ss, s ≥ a ∧ s < b
def belowP (ss : List Int) (a : Int) : Prop := ∃ s ∈ ss, s < a
instance (ss : List Int) (a b : Int) : Decidable (seenP ss a b) := by unfold seenP; infer_instance
instance (ss : List Int) (a : Int) : Decidable (belowP ss a) := by unfold belowP; infer_instance
def stayR (ss : List Int) : En → List En → List En
  | _, [] => []
  | p, y :: l => if seenP ss y.seq p.seq then y :: stayR ss y l else stayR ss y l
def stay (ss : List Int) : List En → List En
  | [] => []
  | x :: l => x :: stayR ss x l
def gone (ss : List Int) (x : En) : Prop := x.kind = 0 ∧ ¬ belowP ss x.seq
instance (ss : List Int) (x : En) : Decidable (gone ss x) := by unfold gone; infer_instance
def trim (ss : List Int) (last : Bool) (l : List En) : List En := if last then (l.reverse.dropWhile fun x => decide (gone ss x)).reverse else l
def kept (ss : List Int) (last : Bool) (l : List En) : List En := trim ss last (stay ss l)
def keepF (ss : List Int) (last : Bool) : Nat → List En → List En
  | 0, _ => []
  | _ + 1, [] => []
  | q + 1, x :: l => kept ss last ((x :: l).take (grp (x :: l))) ++ keepF ss last q ((x :: l).drop (grp (x :: l)))
def keepP (ss : List Int) (last : Bool) (l : List En) : List En := keepF ss last l.length l
theorem grp_pos {l : List En} (h : l ≠ []) : 1 ≤ grp l := by
  cases l with
  | nil => exact absurd rfl h
  | cons x l => show 1 ≤ 1 + _; omega
theorem grp_le : ∀ (l : List En), grp l ≤ l.length
  | [] => Nat.le_refl _
  | x :: l => by
    have h := (List.takeWhile_sublist (l := l) fun y => decide (y.key = x.key)).length_le
    show 1 + _ ≤ l.length + 1; omega
theorem keepF_fuel {ss : List Int} {last : Bool} : ∀ (q q' : Nat) (l : List En), l.length ≤ q → l.length ≤ q' → keepF ss last q l = keepF ss last q' l
  | 0, 0, l, _, _ => rfl
  | 0, q' + 1, [], _, _ => rfl
  | q + 1, 0, [], _, _ => rfl
  | q + 1, q' + 1, [], _, _ => rfl
  | 0, q' + 1, x :: l, h, _ => by simp at h
  | q + 1, 0, x :: l, _, h => by simp at h
  | q + 1, q' + 1, x :: l, h, h' => by
    unfold keepF
    have h1 := grp_pos (l := x :: l) (by simp)
    congr 1
    apply keepF_fuel <;> · rw [List.length_drop]; omega
theorem keepP_cons {ss : List Int} {last : Bool} {l : List En} (h : l ≠ []) : keepP ss last l = kept ss last (l.take (grp l)) ++ keepP ss last (l.drop (grp l)) := by
  have h1 := grp_pos h
  cases l with
  | nil => exact absurd rfl h
  | cons x l =>
    unfold keepP
    rw [List.length_cons, keepF]
    congr 1
    apply keepF_fuel <;> · rw [List.length_drop, List.length_cons]; omega
theorem keepP_nil {ss : List Int} {last : Bool} : keepP ss last [] = [] := rfl
section
variable {α : Type} {Q : α → Prop} {n : Nat} {w w0 : World} {A B C D : Option Addr} {l c m d a1 a2 b1 b2 : Nat} {s k s' k' : Int} {x y : En} {xs ys : List En} {ss : List Int}
theorem Rising_l0 (hx : Ev enEl w A l c xs) (hl : l < 2 ^ 62) (hn : 10 < n) : ∀ (q i j : Nat) (w' : World), i + q = l ∨ (l = 0 ∧ q = 0) → q < j → 1 ≤ i → Kp w w' → (∀ t x y, t + 1 < i → xs[t]? = some x → xs[t + 1]? = some y → cmpK x.k y.k < 0) →
    Rt (merge_Rising.l0 n j A l c (i : Int) w') fun r => Kp w r.w ∧ (r.ex = .exit 0 ∧ r.vals = [] ∧ risingE xs ∨ r.ex = .ret ∧ r.vals = [.bool false] ∧ ¬ risingE xs) := by
  have hxl := hx.len
  intro q
  induction q with
  | zero =>
    intro i j w' hi hj hi1 hk he
    obtain ⟨j, rfl⟩ : ∃ j', j = j' + 1 := ⟨j - 1, by omega⟩
    rw [merge_Rising.l0_succ]
    refine Rt.cDF (by omega) (Rt.some' ⟨hk, .inl ⟨rfl, rfl, rising_at.2 fun t x y ex ey => he t x y ?_ ex ey⟩⟩)
    have := (List.getElem?_eq_some_iff.1 ey).1
    omega
  | succ q ih =>
    intro i j w' hi hj hi1 hk he
    obtain ⟨j, rfl⟩ : ∃ j', j = j' + 1 := ⟨j - 1, by omega⟩
    rw [merge_Rising.l0_succ]
    have hk := hk.dr
    rw [i64_in ((i : Int) - 1) (by omega)]
    refine Rt.cDT (by omega) (Rt.ixN (hx.kp hk).sl (by omega) (by omega) fun x a B1 b1 b2 s k C1 c1 c2 ex hv g0 g1 g2 g3 => ?_)
    (repeat (first | (with_reducible (first | refine Rt.fin ?_ | refine Rt.tL ?_ | refine Rt.tI ?_ | refine Rt.tB ?_ | refine Rt.tS ?_ | refine Rt.tP ?_ | refine Rt.tD ?_ | refine Rt.tM ?_ | refine Rt.tC ?_ | refine Rt.tN ?_ | refine Rt.tA ?_ | refine Rt.tG ?_ | refine Rt.tF ?_ | refine Rt.os ?_ | refine Rt.clS ?_ | refine Rt.jmN ?_ | refine Rt.jbN ?_ | refine Rt.jbE ?_)) | ((with_reducible (first | apply Rt.ld0 | apply Rt.ld1 | apply Rt.ld2 | apply Rt.ld3 | apply Rt.ld4 | apply Rt.ld5)); first | assumption | exact Lc.kp (by assumption) (by assumption)) | ((with_reducible apply Rt.ol); first | assumption | exact cell_kp (by assumption) (by assumption)) | ((with_reducible apply Rt.ckR); focus ((repeat (first | (with_reducible (first | refine Rt.fin ?_ | refine Rt.tL ?_ | refine Rt.tI ?_ | refine Rt.tB ?_ | refine Rt.tS ?_ | refine Rt.tP ?_ | refine Rt.tD ?_ | refine Rt.tM ?_ | refine Rt.tC ?_ | refine Rt.tN ?_ | refine Rt.tA ?_ | refine Rt.tG ?_ | refine Rt.tF ?_ | refine Rt.os ?_ | refine Rt.clS ?_ | refine Rt.jmN ?_ | refine Rt.jbN ?_ | refine Rt.jbE ?_)) | ((with_reducible (first | apply Rt.ld0 | apply Rt.ld1 | apply Rt.ld2 | apply Rt.ld3 | apply Rt.ld4 | apply Rt.ld5)); first | assumption | exact Lc.kp (by assumption) (by assumption)) | ((with_reducible apply Rt.ol); first | assumption | exact cell_kp (by assumption) (by assumption)))); exact Rt.some' rfl))))
    refine Rt.ixN (hx.kp hk).sl (by omega) (by omega) fun y a' B1' b1' b2' s' k' C1' c1' c2' ey hv' g0' g1' g2' g3' => ?_
    (repeat (first | (with_reducible (first | refine Rt.fin ?_ | refine Rt.tL ?_ | refine Rt.tI ?_ | refine Rt.tB ?_ | refine Rt.tS ?_ | refine Rt.tP ?_ | refine Rt.tD ?_ | refine Rt.tM ?_ | refine Rt.tC ?_ | refine Rt.tN ?_ | refine Rt.tA ?_ | refine Rt.tG ?_ | refine Rt.tF ?_ | refine Rt.os ?_ | refine Rt.clS ?_ | refine Rt.jmN ?_ | refine Rt.jbN ?_ | refine Rt.jbE ?_)) | ((with_reducible (first | apply Rt.ld0 | apply Rt.ld1 | apply Rt.ld2 | apply Rt.ld3 | apply Rt.ld4 | apply Rt.ld5)); first | assumption | exact Lc.kp (by assumption) (by assumption)) | ((with_reducible apply Rt.ol); first | assumption | exact cell_kp (by assumption) (by assumption)) | ((with_reducible apply Rt.ckR); focus ((repeat (first | (with_reducible (first | refine Rt.fin ?_ | refine Rt.tL ?_ | refine Rt.tI ?_ | refine Rt.tB ?_ | refine Rt.tS ?_ | refine Rt.tP ?_ | refine Rt.tD ?_ | refine Rt.tM ?_ | refine Rt.tC ?_ | refine Rt.tN ?_ | refine Rt.tA ?_ | refine Rt.tG ?_ | refine Rt.tF ?_ | refine Rt.os ?_ | refine Rt.clS ?_ | refine Rt.jmN ?_ | refine Rt.jbN ?_ | refine Rt.jbE ?_)) | ((with_reducible (first | apply Rt.ld0 | apply Rt.ld1 | apply Rt.ld2 | apply Rt.ld3 | apply Rt.ld4 | apply Rt.ld5)); first | assumption | exact Lc.kp (by assumption) (by assumption)) | ((with_reducible apply Rt.ol); first | assumption | exact cell_kp (by assumption) (by assumption)))); exact Rt.some' rfl))))
    have ex : xs[i - 1]? = some x := by rw [← ex]; congr 1; omega
    have ey : xs[i]? = some y := by simpa using ey
    refine Rt.cI (Compare_spec (by omega) hv.kv hv'.kv) fun w1 k1 => ?_
    have k1 := hk.tr k1
    refine Rt.cD (fun h => Rt.some' ⟨k1, .inr ⟨rfl, rfl, fun h' => ?_⟩⟩) fun h => ?_
    · have := rising_at.1 h' (i - 1) x y ex (by rw [show i - 1 + 1 = i by omega]; exact ey)
      omega
    · rw [i64_in _ (by omega), show ((i : Int) + 1) = ((i + 1 : Nat) : Int) by omega]
      refine ih (i + 1) j w1 (by omega) (by omega) (by omega) k1 fun t u v ht eu ev => ?_
      rcases Nat.lt_or_ge (t + 1) i with h1 | h1
      · exact he t u v h1 eu ev
      · obtain rfl : t = i - 1 := by omega
        rw [ex] at eu
        rw [show i - 1 + 1 = i by omega, ey] at ev
        injection eu with eu
        injection ev with ev
        subst eu ev
        omega
theorem Rising_spec (hx : Ev enEl w A l c xs) (hl : l < 2 ^ 62) (hn : l + 10 < n) : Rt (merge_Rising n [.slice A l c] w) (RB (risingE xs) w) := by
  rw [merge_Rising_eq]
  refine Rt.fin (Rt.jb (Rt.mono (Rising_l0 (n := n) hx hl (by omega) (l - 1) 1 n w (by omega) (by omega) (by omega) (Kp.rfl' w) (fun t x y ht => by omega)) ?_))
  rintro ⟨ex, vs, w1⟩ ⟨k1, ⟨h3, h4, h5⟩ | ⟨h3, h4, h5⟩⟩
  · dsimp only at h3 h4 k1
    subst h3 h4
    refine .inl ⟨.inr rfl, ?_⟩
    (repeat (first | (with_reducible (first | refine Rt.fin ?_ | refine Rt.tL ?_ | refine Rt.tI ?_ | refine Rt.tB ?_ | refine Rt.tS ?_ | refine Rt.tP ?_ | refine Rt.tD ?_ | refine Rt.tM ?_ | refine Rt.tC ?_ | refine Rt.tN ?_ | refine Rt.tA ?_ | refine Rt.tG ?_ | refine Rt.tF ?_ | refine Rt.os ?_ | refine Rt.clS ?_ | refine Rt.jmN ?_ | refine Rt.jbN ?_ | refine Rt.jbE ?_)) | ((with_reducible (first | apply Rt.ld0 | apply Rt.ld1 | apply Rt.ld2 | apply Rt.ld3 | apply Rt.ld4 | apply Rt.ld5)); first | assumption | exact Lc.kp (by assumption) (by assumption)) | ((with_reducible apply Rt.ol); first | assumption | exact cell_kp (by assumption) (by assumption)) | ((with_reducible apply Rt.ckR); focus ((repeat (first | (with_reducible (first | refine Rt.fin ?_ | refine Rt.tL ?_ | refine Rt.tI ?_ | refine Rt.tB ?_ | refine Rt.tS ?_ | refine Rt.tP ?_ | refine Rt.tD ?_ | refine Rt.tM ?_ | refine Rt.tC ?_ | refine Rt.tN ?_ | refine Rt.tA ?_ | refine Rt.tG ?_ | refine Rt.tF ?_ | refine Rt.os ?_ | refine Rt.clS ?_ | refine Rt.jmN ?_ | refine Rt.jbN ?_ | refine Rt.jbE ?_)) | ((with_reducible (first | apply Rt.ld0 | apply Rt.ld1 | apply Rt.ld2 | apply Rt.ld3 | apply Rt.ld4 | apply Rt.ld5)); first | assumption | exact Lc.kp (by assumption) (by assumption)) | ((with_reducible apply Rt.ol); first | assumption | exact cell_kp (by assumption) (by assumption)))); exact Rt.some' rfl))))
    exact Rt.endB (by simp [h5]) k1
  · dsimp only at h3 h4 k1
    subst h3 h4
    exact .inr ⟨rfl, rfl, false, w1, rfl, by simp [h5], k1⟩
theorem user_l0 (hx : Ev enEl w A l c (x :: xs)) (hl : l < 2 ^ 62) : ∀ (q i j : Nat) (w' : World), i + q = l → q < j → 1 ≤ i → Kp w w' → (∀ y ∈ xs.take (i - 1), y.key = x.key) →
    Rt (drop_user.l0 n j A l c (i : Int) w') fun r => Kp w r.w ∧ r.ex = .exit 0 ∧ r.vals = [.int .i64 (grp (x :: xs) : Int)] := by
  have hxl := hx.len
  have key : ∀ i, 1 ≤ i → i ≤ l → (∀ y ∈ xs.take (i - 1), y.key = x.key) → (∀ y, (x :: xs)[i]? = some y → y.key ≠ x.key) → (i : Int) = (grp (x :: xs) : Int) := by
    intro i h1 h2 h3 h4
    have e1 : xs = xs.take (i - 1) ++ xs.drop (i - 1) := (List.take_append_drop _ _).symm
    have hlen : (xs.take (i - 1)).length = i - 1 := by rw [List.length_take]; simp at hxl; omega
    have e2 : xs.takeWhile (fun y => decide (y.key = x.key)) = xs.take (i - 1) := by
      conv => lhs; rw [e1]
      rw [List.takeWhile_append_of_pos (fun y hy => decide_eq_true (h3 y hy))]
      cases hd : xs.drop (i - 1) with
      | nil => simp
      | cons y t =>
        have hy : (x :: xs)[i]? = some y := by
          rw [show i = (i - 1) + 1 by omega, List.getElem?_cons_succ]
          have := List.getElem?_drop (xs := xs) (i := i - 1) (j := 0)
          rw [hd] at this; simpa using this.symm
        rw [List.takeWhile_cons_of_neg (by simpa using h4 y hy)]; simp
    show (i : Int) = ((1 + _ : Nat) : Int)
    rw [e2, hlen]; omega
  intro q
  induction q with
  | zero =>
    intro i j w' hi hj hi1 hk he
    obtain ⟨j, rfl⟩ : ∃ j', j = j' + 1 := ⟨j - 1, by omega⟩
    rw [drop_user.l0_succ]
    refine Rt.cDF (by omega) (Rt.some' ⟨hk.dr, rfl, ?_⟩)
    rw [key i hi1 (by omega) he fun y hy => by have := (List.getElem?_eq_some_iff.1 hy).1; omega]
  | succ q ih =>
    intro i j w' hi hj hi1 hk he
    obtain ⟨j, rfl⟩ : ∃ j', j = j' + 1 := ⟨j - 1, by omega⟩
    rw [drop_user.l0_succ]
    have hk := hk.dr
    refine Rt.cDT (by omega) (Rt.ixN (hx.kp hk).sl (by omega) (by omega) fun z a B1 b1 b2 s k C1 c1 c2 ez hv g0 g1 g2 g3 => ?_)
    (repeat (first | (with_reducible (first | refine Rt.fin ?_ | refine Rt.tL ?_ | refine Rt.tI ?_ | refine Rt.tB ?_ | refine Rt.tS ?_ | refine Rt.tP ?_ | refine Rt.tD ?_ | refine Rt.tM ?_ | refine Rt.tC ?_ | refine Rt.tN ?_ | refine Rt.tA ?_ | refine Rt.tG ?_ | refine Rt.tF ?_ | refine Rt.os ?_ | refine Rt.clS ?_ | refine Rt.jmN ?_ | refine Rt.jbN ?_ | refine Rt.jbE ?_)) | ((with_reducible (first | apply Rt.ld0 | apply Rt.ld1 | apply Rt.ld2 | apply Rt.ld3 | apply Rt.ld4 | apply Rt.ld5)); first | assumption | exact Lc.kp (by assumption) (by assumption)) | ((with_reducible apply Rt.ol); first | assumption | exact cell_kp (by assumption) (by assumption)) | ((with_reducible apply Rt.ckR); focus ((repeat (first | (with_reducible (first | refine Rt.fin ?_ | refine Rt.tL ?_ | refine Rt.tI ?_ | refine Rt.tB ?_ | refine Rt.tS ?_ | refine Rt.tP ?_ | refine Rt.tD ?_ | refine Rt.tM ?_ | refine Rt.tC ?_ | refine Rt.tN ?_ | refine Rt.tA ?_ | refine Rt.tG ?_ | refine Rt.tF ?_ | refine Rt.os ?_ | refine Rt.clS ?_ | refine Rt.jmN ?_ | refine Rt.jbN ?_ | refine Rt.jbE ?_)) | ((with_reducible (first | apply Rt.ld0 | apply Rt.ld1 | apply Rt.ld2 | apply Rt.ld3 | apply Rt.ld4 | apply Rt.ld5)); first | assumption | exact Lc.kp (by assumption) (by assumption)) | ((with_reducible apply Rt.ol); first | assumption | exact cell_kp (by assumption) (by assumption)))); exact Rt.some' rfl))))
    refine Rt.ixN (hx.kp hk).sl (by omega) (by omega) fun y a' B1' b1' b2' s' k' C1' c1' c2' ey hv' g0' g1' g2' g3' => ?_
    (repeat (first | (with_reducible (first | refine Rt.fin ?_ | refine Rt.tL ?_ | refine Rt.tI ?_ | refine Rt.tB ?_ | refine Rt.tS ?_ | refine Rt.tP ?_ | refine Rt.tD ?_ | refine Rt.tM ?_ | refine Rt.tC ?_ | refine Rt.tN ?_ | refine Rt.tA ?_ | refine Rt.tG ?_ | refine Rt.tF ?_ | refine Rt.os ?_ | refine Rt.clS ?_ | refine Rt.jmN ?_ | refine Rt.jbN ?_ | refine Rt.jbE ?_)) | ((with_reducible (first | apply Rt.ld0 | apply Rt.ld1 | apply Rt.ld2 | apply Rt.ld3 | apply Rt.ld4 | apply Rt.ld5)); first | assumption | exact Lc.kp (by assumption) (by assumption)) | ((with_reducible apply Rt.ol); first | assumption | exact cell_kp (by assumption) (by assumption)) | ((with_reducible apply Rt.ckR); focus ((repeat (first | (with_reducible (first | refine Rt.fin ?_ | refine Rt.tL ?_ | refine Rt.tI ?_ | refine Rt.tB ?_ | refine Rt.tS ?_ | refine Rt.tP ?_ | refine Rt.tD ?_ | refine Rt.tM ?_ | refine Rt.tC ?_ | refine Rt.tN ?_ | refine Rt.tA ?_ | refine Rt.tG ?_ | refine Rt.tF ?_ | refine Rt.os ?_ | refine Rt.clS ?_ | refine Rt.jmN ?_ | refine Rt.jbN ?_ | refine Rt.jbE ?_)) | ((with_reducible (first | apply Rt.ld0 | apply Rt.ld1 | apply Rt.ld2 | apply Rt.ld3 | apply Rt.ld4 | apply Rt.ld5)); first | assumption | exact Lc.kp (by assumption) (by assumption)) | ((with_reducible apply Rt.ol); first | assumption | exact cell_kp (by assumption) (by assumption)))); exact Rt.some' rfl))))
    have ez : (x :: xs)[i]? = some z := by simpa using ez
    have ey : x = y := by simpa using ey
    subst ey
    refine Rt.cBo (Equal_spec hv.key hv'.key) fun b w1 hb k1 => ?_
    have k1 := hk.tr k1
    cases b with
    | false =>
      refine Rt.cF rfl (Rt.some' ⟨k1, rfl, ?_⟩)
      rw [key i hi1 (by omega) he fun y hy => by
        rw [ez] at hy; injection hy with hy; subst hy
        intro h; simpa using hb.2 h]
    | true =>
      refine Rt.cT rfl ?_
      rw [i64_in _ (by omega), show ((i : Int) + 1) = ((i + 1 : Nat) : Int) by omega]
      refine ih (i + 1) j w1 (by omega) (by omega) (by omega) k1 fun y hy => ?_
      rw [show i + 1 - 1 = (i - 1) + 1 by omega, take_succ_at (show xs[i - 1]? = some z by rw [← ez]; conv => rhs; rw [show i = (i - 1) + 1 by omega, List.getElem?_cons_succ]), List.mem_append] at hy
      rcases hy with hy | hy
      · exact he y hy
      · simp at hy; subst hy; exact hb.1 rfl
theorem user_spec (hx : Ev enEl w A l c xs) (hne : xs ≠ []) (hl : l < 2 ^ 62) (hn : l < n) : Rt (drop_user n [.slice A l c] w) (RI .i64 (grp xs : Int) w) := by
  have hxl := hx.len
  cases xs with
  | nil => exact absurd rfl hne
  | cons x xs =>
    simp at hxl
    rw [drop_user_eq]
    refine Rt.fin (Rt.jb (Rt.mono (user_l0 (n := n) hx hl (l - 1) 1 n w (by omega) (by omega) (by omega) (Kp.rfl' w) (by simp)) ?_))
    rintro ⟨ex, vs, w1⟩ ⟨k1, h3, h4⟩
    dsimp only at h3 h4 k1
    subst h3 h4
    refine .inl ⟨.inr rfl, ?_⟩
    (repeat (first | (with_reducible (first | refine Rt.fin ?_ | refine Rt.tL ?_ | refine Rt.tI ?_ | refine Rt.tB ?_ | refine Rt.tS ?_ | refine Rt.tP ?_ | refine Rt.tD ?_ | refine Rt.tM ?_ | refine Rt.tC ?_ | refine Rt.tN ?_ | refine Rt.tA ?_ | refine Rt.tG ?_ | refine Rt.tF ?_ | refine Rt.os ?_ | refine Rt.clS ?_ | refine Rt.jmN ?_ | refine Rt.jbN ?_ | refine Rt.jbE ?_)) | ((with_reducible (first | apply Rt.ld0 | apply Rt.ld1 | apply Rt.ld2 | apply Rt.ld3 | apply Rt.ld4 | apply Rt.ld5)); first | assumption | exact Lc.kp (by assumption) (by assumption)) | ((with_reducible apply Rt.ol); first | assumption | exact cell_kp (by assumption) (by assumption)) | ((with_reducible apply Rt.ckR); focus ((repeat (first | (with_reducible (first | refine Rt.fin ?_ | refine Rt.tL ?_ | refine Rt.tI ?_ | refine Rt.tB ?_ | refine Rt.tS ?_ | refine Rt.tP ?_ | refine Rt.tD ?_ | refine Rt.tM ?_ | refine Rt.tC ?_ | refine Rt.tN ?_ | refine Rt.tA ?_ | refine Rt.tG ?_ | refine Rt.tF ?_ | refine Rt.os ?_ | refine Rt.clS ?_ | refine Rt.jmN ?_ | refine Rt.jbN ?_ | refine Rt.jbE ?_)) | ((with_reducible (first | apply Rt.ld0 | apply Rt.ld1 | apply Rt.ld2 | apply Rt.ld3 | apply Rt.ld4 | apply Rt.ld5)); first | assumption | exact Lc.kp (by assumption) (by assumption)) | ((with_reducible apply Rt.ol); first | assumption | exact cell_kp (by assumption) (by assumption)))); exact Rt.some' rfl))))
    exact Rt.endI rfl k1
/-- slices.IndexFunc with what one of drop's own functions says. -/
theorem Index_l0 (hs : Bv .u64 w A l c ss) (hl : l < 2 ^ 62) {g : FuncId} {run : CallF} {caps : Array Value} (hg : Big.look g (slices_IndexFunc_uint64_uint64.orc (drop_seen_1 n) (drop_below_1 n)) = some run) {p : Int → Prop}
    (hrun : ∀ x w', Kp w w' → Rt (run ([.int .u64 x] ++ caps.toList) w') (RB (p x) w')) : ∀ (q i j : Nat) (w' : World), i + q = l → q < j → Kp w w' → (∀ x ∈ ss.take i, ¬ p x) →
    Rt (slices_IndexFunc_uint64_uint64.l0 n j A l c (.func g) #[] caps (l : Int) (i : Int) w') fun r => Kp w r.w ∧ (r.ex = .exit 0 ∧ r.vals = [] ∧ (∀ x ∈ ss, ¬ p x) ∨ r.ex = .ret ∧ ∃ i : Nat, r.vals = [.int .i64 (i : Int)] ∧ ∃ x ∈ ss, p x) := by
  have hsl := hs.len
  intro q
  induction q with
  | zero =>
    intro i j w' hi hj hk he
    obtain ⟨j, rfl⟩ : ∃ j', j = j' + 1 := ⟨j - 1, by omega⟩
    rw [slices_IndexFunc_uint64_uint64.l0_succ]
    exact Rt.cDF (by omega) (Rt.some' ⟨hk, .inl ⟨rfl, rfl, by rwa [List.take_of_length_le (by omega)] at he⟩⟩)
  | succ q ih =>
    intro i j w' hi hj hk he
    obtain ⟨j, rfl⟩ : ∃ j', j = j' + 1 := ⟨j - 1, by omega⟩
    rw [slices_IndexFunc_uint64_uint64.l0_succ]
    refine Rt.cDT (by omega) (Rt.ix (hs.kp hk).sl (by omega) (by omega) (Rt.tG (Rt.ol hg ?_)))
    have ex : ss[i]? = some (ss.getD i 0) := by rw [List.getD_eq_getElem?_getD, List.getElem?_eq_getElem (by omega)]; rfl
    rw [Int.toNat_natCast]
    refine Rt.cBo (hrun (ss.getD i 0) w' hk) fun b w1 hb k1 => ?_
    have k1 := hk.tr k1
    cases b with
    | true => exact Rt.cT rfl (Rt.some' ⟨k1, .inr ⟨rfl, i, rfl, _, List.mem_of_getElem? ex, hb.1 rfl⟩⟩)
    | false =>
      refine Rt.cF rfl ?_
      rw [i64_in _ (by omega), show ((i : Int) + 1) = ((i + 1 : Nat) : Int) by omega]
      refine ih (i + 1) j w1 (by omega) (by omega) k1 fun x hx => ?_
      rw [take_succ_at ex, List.mem_append] at hx
      rcases hx with hx | hx
      · exact he x hx
      · rw [List.mem_singleton] at hx; subst hx; intro h; simpa using hb.2 h
theorem Contains_spec (hs : Bv .u64 w A l c ss) (hl : l < 2 ^ 62) (hn : l < n) {g : FuncId} {run : CallF} {caps : Array Value} (hg : Big.look g (slices_IndexFunc_uint64_uint64.orc (drop_seen_1 n) (drop_below_1 n)) = some run) {p : Int → Prop}
    (hrun : ∀ x w', Kp w w' → Rt (run ([.int .u64 x] ++ caps.toList) w') (RB (p x) w')) : Rt (slices_ContainsFunc_uint64_uint64 n [.slice A l c, .func (.func g) #[] caps] w) (RB (∃ x ∈ ss, p x) w) := by
  rw [slices_ContainsFunc_uint64_uint64_eq, slices_IndexFunc_uint64_uint64_eq]
  refine Rt.fin (Rt.call (R := fun r => ∃ i w', r = ([.int .i64 i], w') ∧ Kp w w' ∧ (i ≥ 0 ↔ ∃ x ∈ ss, p x)) (Rt.fin (Rt.jb (Rt.mono (Index_l0 (n := n) hs hl hg hrun l 0 n w (by omega) (by omega) (Kp.rfl' w) (by simp)) ?_))) ?_)
  · rintro ⟨ex, vs, w1⟩ ⟨k1, ⟨h3, h4, h5⟩ | ⟨h3, i, h4, h5⟩⟩
    · dsimp only at h3 h4 k1
      subst h3 h4
      refine .inl ⟨.inr rfl, ?_⟩
      (repeat (first | (with_reducible (first | refine Rt.fin ?_ | refine Rt.tL ?_ | refine Rt.tI ?_ | refine Rt.tB ?_ | refine Rt.tS ?_ | refine Rt.tP ?_ | refine Rt.tD ?_ | refine Rt.tM ?_ | refine Rt.tC ?_ | refine Rt.tN ?_ | refine Rt.tA ?_ | refine Rt.tG ?_ | refine Rt.tF ?_ | refine Rt.os ?_ | refine Rt.clS ?_ | refine Rt.jmN ?_ | refine Rt.jbN ?_ | refine Rt.jbE ?_)) | ((with_reducible (first | apply Rt.ld0 | apply Rt.ld1 | apply Rt.ld2 | apply Rt.ld3 | apply Rt.ld4 | apply Rt.ld5)); first | assumption | exact Lc.kp (by assumption) (by assumption)) | ((with_reducible apply Rt.ol); first | assumption | exact cell_kp (by assumption) (by assumption)) | ((with_reducible apply Rt.ckR); focus ((repeat (first | (with_reducible (first | refine Rt.fin ?_ | refine Rt.tL ?_ | refine Rt.tI ?_ | refine Rt.tB ?_ | refine Rt.tS ?_ | refine Rt.tP ?_ | refine Rt.tD ?_ | refine Rt.tM ?_ | refine Rt.tC ?_ | refine Rt.tN ?_ | refine Rt.tA ?_ | refine Rt.tG ?_ | refine Rt.tF ?_ | refine Rt.os ?_ | refine Rt.clS ?_ | refine Rt.jmN ?_ | refine Rt.jbN ?_ | refine Rt.jbE ?_)) | ((with_reducible (first | apply Rt.ld0 | apply Rt.ld1 | apply Rt.ld2 | apply Rt.ld3 | apply Rt.ld4 | apply Rt.ld5)); first | assumption | exact Lc.kp (by assumption) (by assumption)) | ((with_reducible apply Rt.ol); first | assumption | exact cell_kp (by assumption) (by assumption)))); exact Rt.some' rfl))))
      exact Rt.some' ⟨rfl, -1, w1, rfl, k1, by simp; exact fun x hx => h5 x hx⟩
    · dsimp only at h3 h4 k1
      subst h3 h4
      exact .inr ⟨rfl, rfl, i, w1, rfl, k1, by simp; exact h5⟩
  · rintro vs w1 ⟨i, w', e, k1, h⟩
    injection e with e1 e2
    subst e1 e2
    (repeat (first | (with_reducible (first | refine Rt.fin ?_ | refine Rt.tL ?_ | refine Rt.tI ?_ | refine Rt.tB ?_ | refine Rt.tS ?_ | refine Rt.tP ?_ | refine Rt.tD ?_ | refine Rt.tM ?_ | refine Rt.tC ?_ | refine Rt.tN ?_ | refine Rt.tA ?_ | refine Rt.tG ?_ | refine Rt.tF ?_ | refine Rt.os ?_ | refine Rt.clS ?_ | refine Rt.jmN ?_ | refine Rt.jbN ?_ | refine Rt.jbE ?_)) | ((with_reducible (first | apply Rt.ld0 | apply Rt.ld1 | apply Rt.ld2 | apply Rt.ld3 | apply Rt.ld4 | apply Rt.ld5)); first | assumption | exact Lc.kp (by assumption) (by assumption)) | ((with_reducible apply Rt.ol); first | assumption | exact cell_kp (by assumption) (by assumption)) | ((with_reducible apply Rt.ckR); focus ((repeat (first | (with_reducible (first | refine Rt.fin ?_ | refine Rt.tL ?_ | refine Rt.tI ?_ | refine Rt.tB ?_ | refine Rt.tS ?_ | refine Rt.tP ?_ | refine Rt.tD ?_ | refine Rt.tM ?_ | refine Rt.tC ?_ | refine Rt.tN ?_ | refine Rt.tA ?_ | refine Rt.tG ?_ | refine Rt.tF ?_ | refine Rt.os ?_ | refine Rt.clS ?_ | refine Rt.jmN ?_ | refine Rt.jbN ?_ | refine Rt.jbE ?_)) | ((with_reducible (first | apply Rt.ld0 | apply Rt.ld1 | apply Rt.ld2 | apply Rt.ld3 | apply Rt.ld4 | apply Rt.ld5)); first | assumption | exact Lc.kp (by assumption) (by assumption)) | ((with_reducible apply Rt.ol); first | assumption | exact cell_kp (by assumption) (by assumption)))); exact Rt.some' rfl))))
    exact Rt.endB (by rw [decide_eq_true_eq]; exact h) k1
theorem seen_spec (hs : Bv .u64 w A l c ss) (hl : l < 2 ^ 62) (hn : l < n) (hx : EnV w B a1 a2 s k C b1 b2 x) {B' C' : Option Addr} {a1' a2' b1' b2' : Nat} (hy : EnV w B' a1' a2' s' k' C' b1' b2' y) :
    Rt (drop_seen n [.slice A l c, ev B a1 a2 s k C b1 b2, ev B' a1' a2' s' k' C' b1' b2'] w) (RB (seenP ss x.seq y.seq) w) := by
  rw [drop_seen_eq]
  refine Rt.fin (Rt.al fun w1 l1 k1 _ => Rt.al fun w2 l2 k2 _ => ?_)
  have l1 := l1.kp k2
  have k12 := k1.tr k2
  refine Rt.cBo (Contains_spec (p := fun t => t ≥ x.seq ∧ t < y.seq) (run := drop_seen_1 n) (hs.kp k12) hl hn rfl fun t w3 k3 => ?_) fun b w3 hb k3 => Rt.endB hb (k12.tr k3)
  have l1 := l1.kp k3
  have l2 := l2.kp k3
  show Rt (drop_seen_1 n [.int .u64 t, .pointer (some ⟨w.heap.size, 0, none⟩), .pointer (some ⟨w1.heap.size, 0, none⟩)] w3) _
  rw [drop_seen_1_eq]
  have h1 := hx.seq
  have h2 := hy.seq
  refine Rt.fin ?_
  (repeat (first | (with_reducible (first | refine Rt.fin ?_ | refine Rt.tL ?_ | refine Rt.tI ?_ | refine Rt.tB ?_ | refine Rt.tS ?_ | refine Rt.tP ?_ | refine Rt.tD ?_ | refine Rt.tM ?_ | refine Rt.tC ?_ | refine Rt.tN ?_ | refine Rt.tA ?_ | refine Rt.tG ?_ | refine Rt.tF ?_ | refine Rt.os ?_ | refine Rt.clS ?_ | refine Rt.jmN ?_ | refine Rt.jbN ?_ | refine Rt.jbE ?_)) | ((with_reducible (first | apply Rt.ld0 | apply Rt.ld1 | apply Rt.ld2 | apply Rt.ld3 | apply Rt.ld4 | apply Rt.ld5)); first | assumption | exact Lc.kp (by assumption) (by assumption)) | ((with_reducible apply Rt.ol); first | assumption | exact cell_kp (by assumption) (by assumption)) | ((with_reducible apply Rt.ckR); focus ((repeat (first | (with_reducible (first | refine Rt.fin ?_ | refine Rt.tL ?_ | refine Rt.tI ?_ | refine Rt.tB ?_ | refine Rt.tS ?_ | refine Rt.tP ?_ | refine Rt.tD ?_ | refine Rt.tM ?_ | refine Rt.tC ?_ | refine Rt.tN ?_ | refine Rt.tA ?_ | refine Rt.tG ?_ | refine Rt.tF ?_ | refine Rt.os ?_ | refine Rt.clS ?_ | refine Rt.jmN ?_ | refine Rt.jbN ?_ | refine Rt.jbE ?_)) | ((with_reducible (first | apply Rt.ld0 | apply Rt.ld1 | apply Rt.ld2 | apply Rt.ld3 | apply Rt.ld4 | apply Rt.ld5)); first | assumption | exact Lc.kp (by assumption) (by assumption)) | ((with_reducible apply Rt.ol); first | assumption | exact cell_kp (by assumption) (by assumption)))); exact Rt.some' rfl))))
  refine Rt.cD (fun h => ?_) fun h => ?_
  · (repeat (first | (with_reducible (first | refine Rt.fin ?_ | refine Rt.tL ?_ | refine Rt.tI ?_ | refine Rt.tB ?_ | refine Rt.tS ?_ | refine Rt.tP ?_ | refine Rt.tD ?_ | refine Rt.tM ?_ | refine Rt.tC ?_ | refine Rt.tN ?_ | refine Rt.tA ?_ | refine Rt.tG ?_ | refine Rt.tF ?_ | refine Rt.os ?_ | refine Rt.clS ?_ | refine Rt.jmN ?_ | refine Rt.jbN ?_ | refine Rt.jbE ?_)) | ((with_reducible (first | apply Rt.ld0 | apply Rt.ld1 | apply Rt.ld2 | apply Rt.ld3 | apply Rt.ld4 | apply Rt.ld5)); first | assumption | exact Lc.kp (by assumption) (by assumption)) | ((with_reducible apply Rt.ol); first | assumption | exact cell_kp (by assumption) (by assumption)) | ((with_reducible apply Rt.ckR); focus ((repeat (first | (with_reducible (first | refine Rt.fin ?_ | refine Rt.tL ?_ | refine Rt.tI ?_ | refine Rt.tB ?_ | refine Rt.tS ?_ | refine Rt.tP ?_ | refine Rt.tD ?_ | refine Rt.tM ?_ | refine Rt.tC ?_ | refine Rt.tN ?_ | refine Rt.tA ?_ | refine Rt.tG ?_ | refine Rt.tF ?_ | refine Rt.os ?_ | refine Rt.clS ?_ | refine Rt.jmN ?_ | refine Rt.jbN ?_ | refine Rt.jbE ?_)) | ((with_reducible (first | apply Rt.ld0 | apply Rt.ld1 | apply Rt.ld2 | apply Rt.ld3 | apply Rt.ld4 | apply Rt.ld5)); first | assumption | exact Lc.kp (by assumption) (by assumption)) | ((with_reducible apply Rt.ol); first | assumption | exact cell_kp (by assumption) (by assumption)))); exact Rt.some' rfl))))
    exact Rt.endB (by rw [decide_eq_true_eq]; omega) (Kp.rfl' _)
  · exact Rt.endB (by simp only [Bool.false_eq_true, false_iff]; omega) (Kp.rfl' _)
theorem below_spec (hs : Bv .u64 w A l c ss) (hl : l < 2 ^ 62) (hn : l < n) (hx : EnV w B a1 a2 s k C b1 b2 x) : Rt (drop_below n [.slice A l c, ev B a1 a2 s k C b1 b2] w) (RB (belowP ss x.seq) w) := by
  rw [drop_below_eq]
  refine Rt.fin (Rt.al fun w1 l1 k1 _ => ?_)
  refine Rt.cBo (Contains_spec (p := fun t => t < x.seq) (run := drop_below_1 n) (hs.kp k1) hl hn rfl fun t w3 k3 => ?_) fun b w3 hb k3 => Rt.endB hb (k1.tr k3)
  have l1 := l1.kp k3
  show Rt (drop_below_1 n [.int .u64 t, .pointer (some ⟨w.heap.size, 0, none⟩)] w3) _
  rw [drop_below_1_eq]
  have h1 := hx.seq
  refine Rt.fin ?_
  (repeat (first | (with_reducible (first | refine Rt.fin ?_ | refine Rt.tL ?_ | refine Rt.tI ?_ | refine Rt.tB ?_ | refine Rt.tS ?_ | refine Rt.tP ?_ | refine Rt.tD ?_ | refine Rt.tM ?_ | refine Rt.tC ?_ | refine Rt.tN ?_ | refine Rt.tA ?_ | refine Rt.tG ?_ | refine Rt.tF ?_ | refine Rt.os ?_ | refine Rt.clS ?_ | refine Rt.jmN ?_ | refine Rt.jbN ?_ | refine Rt.jbE ?_)) | ((with_reducible (first | apply Rt.ld0 | apply Rt.ld1 | apply Rt.ld2 | apply Rt.ld3 | apply Rt.ld4 | apply Rt.ld5)); first | assumption | exact Lc.kp (by assumption) (by assumption)) | ((with_reducible apply Rt.ol); first | assumption | exact cell_kp (by assumption) (by assumption)) | ((with_reducible apply Rt.ckR); focus ((repeat (first | (with_reducible (first | refine Rt.fin ?_ | refine Rt.tL ?_ | refine Rt.tI ?_ | refine Rt.tB ?_ | refine Rt.tS ?_ | refine Rt.tP ?_ | refine Rt.tD ?_ | refine Rt.tM ?_ | refine Rt.tC ?_ | refine Rt.tN ?_ | refine Rt.tA ?_ | refine Rt.tG ?_ | refine Rt.tF ?_ | refine Rt.os ?_ | refine Rt.clS ?_ | refine Rt.jmN ?_ | refine Rt.jbN ?_ | refine Rt.jbE ?_)) | ((with_reducible (first | apply Rt.ld0 | apply Rt.ld1 | apply Rt.ld2 | apply Rt.ld3 | apply Rt.ld4 | apply Rt.ld5)); first | assumption | exact Lc.kp (by assumption) (by assumption)) | ((with_reducible apply Rt.ol); first | assumption | exact cell_kp (by assumption) (by assumption)))); exact Rt.some' rfl))))
  exact Rt.endB (by rw [decide_eq_true_eq]; omega) (Kp.rfl' _)
end
end Go.Proofs.Ytoilmnplocfipaa.Dr
