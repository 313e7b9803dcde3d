/- packed by slim.py -/
import Derived.Test.YtdcdgmiojlldaaaDoorZK9
/- T0 T1 T2 T3 T4 T5 -/
/- Batches: what Check, Size and Big compute; the laws of limits and sizes. -/
namespace Go.Proofs.YtdcdgmiojlldaaaDoor.Ba
open Go Big Go.RowKit Go.IntWalk
set_option linter.unusedVariables false
set_option linter.unusedSimpArgs false
theorem slB : ∃ i, SlT Tryd.prog 28 5 .u8 i := slT (by kernel_rfl)
theorem slO : ∃ i v, SlTE Tryd.prog 31 30 3 i v := slTE (by kernel_rfl)
theorem conv : ConvB Tryd.prog 28 := fun a l c w => by kernel_rfl
abbrev Bytes (xs : List Int) : Prop := ∀ x ∈ xs, (Lit.int .u8 x).wf = true
structure OpD where
  kind : Int
  key : List Int
  val : List Int
abbrev ov (k : Int) (A : Option Addr) (l c : Nat) (B : Option Addr) (m d : Nat) : Value := .agg #[.int .i64 k, .slice A l c, .slice B m d]
structure OpV (w : World) (k : Int) (A : Option Addr) (l c : Nat) (B : Option Addr) (m d : Nat) (x : OpD) : Prop where
  kind : k = x.kind
  rk : (Lit.int .i64 x.kind).wf = true
  key : Bv .u8 w A l c x.key
  val : Bv .u8 w B m d x.val
theorem OpV.kp {w w' : World} {k : Int} {A : Option Addr} {l c : Nat} {B : Option Addr} {m d : Nat} {x : OpD} (h : OpV w k A l c B m d x) (hk : Kp w w') : OpV w' k A l c B m d x := ⟨h.kind, h.rk, h.key.kp hk, h.val.kp hk⟩
def opEl : El OpD where
  sz := 3
  rd w vs x := ∃ k A l c B m d, vs = [.int .i64 k, .slice A l c, .slice B m d] ∧ OpV w k A l c B m d x
  kp := fun hk ⟨k, A, l, c, B, m, d, e, h⟩ => ⟨k, A, l, c, B, m, d, e, h.kp hk⟩
  one := fun ⟨k, A, l, c, B, m, d, e, h⟩ u hu => by subst e; simp only [List.mem_cons, List.not_mem_nil, or_false] at hu; rcases hu with rfl | rfl | rfl <;> rfl
def rightO (x : OpD) : Prop := (x.kind = 0 ∧ x.val.length = 0 ∨ x.kind = 1) ∧ 1 ≤ x.key.length ∧ x.key.length ≤ 256 ∧ x.val.length ≤ 4096
open Classical in
noncomputable def checkC (l : List OpD) : Int := if l.length < 1 ∨ l.length > 100 then 3 else if ∀ o ∈ l, rightO o then 0 else 1
section
variable {α : Type} {Q : α → Prop} {n : Nat} {w w0 : World} {A B C : Option Addr} {l c m d : Nat} {k : Int} {x : OpD} {xs ys : List OpD}
theorem Rt.ixO (hs : SlE opEl w A l xs) {i : Int} (h0 : 0 ≤ i) (h1 : i < l) {f : Addr → Option α}
    (h : ∀ x a k B m d C p q, xs[i.toNat]? = some x → OpV w k B m d C p q x → w.cell? a = some (.int .i64 k) → w.cell? (a.add 1) = some (.slice B m d) → w.cell? (a.add 2) = some (.slice C p q) → Rt (f a) Q) : Rt (ixA A l i 3 f) Q := by
  refine Rt.ixe hs rfl h0 h1 fun x a us e1 _ e3 e4 => ?_
  obtain ⟨k, B, m, d, C, p, q, rfl, hv⟩ := e3
  have c0 := e4 0 _ rfl
  rw [Addr.add_zero'] at c0
  exact h x a k B m d C p q e1 hv c0 (e4 1 _ rfl) (e4 2 _ rfl)
theorem right_spec (hx : OpV w k A l c B m d x) : Rt (batch_right n [ov k A l c B m d] w) (RB (rightO x) w) := by
  have h1 := hx.kind
  have h2 := hx.key.len
  have h3 := hx.val.len
  rw [batch_right_eq]
  unfold rightO
  refine Rt.fin (Rt.al fun w1 l1 k1 _ => ?_)
  have tail : ∀ {y : Option Res}, (x.kind = 0 ∧ x.val.length = 0 ∨ x.kind = 1) → y = (opt (w1.cell? (Addr.add ⟨w.heap.size, 0, none⟩ 1)) fun v7 => tL v7 fun A8 l9 c10 => cond (decide ((l9 : Int) ≥ 1)) (opt (w1.cell? (Addr.add ⟨w.heap.size, 0, none⟩ 1)) fun v11 => tL v11 fun A12 l13 c14 => cond (decide ((l13 : Int) ≤ 256)) (opt (w1.cell? (Addr.add ⟨w.heap.size, 0, none⟩ 2)) fun v15 => tL v15 fun A16 l17 c18 => some ⟨.ret, [(.bool (decide ((l17 : Int) ≤ 4096)))], w1⟩) (some ⟨.ret, [(.bool false)], w1⟩)) (some ⟨.ret, [(.bool false)], w1⟩)) →
      Rt y (fun r => r.ex = .ret ∧ RB ((x.kind = 0 ∧ x.val.length = 0 ∨ x.kind = 1) ∧ 1 ≤ x.key.length ∧ x.key.length ≤ 256 ∧ x.val.length ≤ 4096) w (r.vals, r.w)) := by
    intro y hk e
    subst e
    (repeat (first | (with_reducible (first | refine Rt.fin ?_ | refine Rt.tL ?_ | refine Rt.tI ?_ | refine Rt.tB ?_ | refine Rt.tS ?_ | refine Rt.tP ?_ | refine Rt.tD ?_ | refine Rt.tM ?_ | refine Rt.tC ?_ | refine Rt.tN ?_ | refine Rt.tA ?_ | refine Rt.tG ?_ | refine Rt.tF ?_ | refine Rt.os ?_ | refine Rt.clS ?_ | refine Rt.jmN ?_ | refine Rt.jbN ?_ | refine Rt.jbE ?_)) | ((with_reducible (first | apply Rt.ld0 | apply Rt.ld1 | apply Rt.ld2 | apply Rt.ld3 | apply Rt.ld4 | apply Rt.ld5)); first | assumption | exact Lc.kp (by assumption) (by assumption)) | ((with_reducible apply Rt.ol); first | assumption | exact cell_kp (by assumption) (by assumption)) | ((with_reducible apply Rt.ckR); focus ((repeat (first | (with_reducible (first | refine Rt.fin ?_ | refine Rt.tL ?_ | refine Rt.tI ?_ | refine Rt.tB ?_ | refine Rt.tS ?_ | refine Rt.tP ?_ | refine Rt.tD ?_ | refine Rt.tM ?_ | refine Rt.tC ?_ | refine Rt.tN ?_ | refine Rt.tA ?_ | refine Rt.tG ?_ | refine Rt.tF ?_ | refine Rt.os ?_ | refine Rt.clS ?_ | refine Rt.jmN ?_ | refine Rt.jbN ?_ | refine Rt.jbE ?_)) | ((with_reducible (first | apply Rt.ld0 | apply Rt.ld1 | apply Rt.ld2 | apply Rt.ld3 | apply Rt.ld4 | apply Rt.ld5)); first | assumption | exact Lc.kp (by assumption) (by assumption)) | ((with_reducible apply Rt.ol); first | assumption | exact cell_kp (by assumption) (by assumption)))); exact Rt.some' rfl))))
    refine Rt.cD (fun h => ?_) fun h => ?_
    · (repeat (first | (with_reducible (first | refine Rt.fin ?_ | refine Rt.tL ?_ | refine Rt.tI ?_ | refine Rt.tB ?_ | refine Rt.tS ?_ | refine Rt.tP ?_ | refine Rt.tD ?_ | refine Rt.tM ?_ | refine Rt.tC ?_ | refine Rt.tN ?_ | refine Rt.tA ?_ | refine Rt.tG ?_ | refine Rt.tF ?_ | refine Rt.os ?_ | refine Rt.clS ?_ | refine Rt.jmN ?_ | refine Rt.jbN ?_ | refine Rt.jbE ?_)) | ((with_reducible (first | apply Rt.ld0 | apply Rt.ld1 | apply Rt.ld2 | apply Rt.ld3 | apply Rt.ld4 | apply Rt.ld5)); first | assumption | exact Lc.kp (by assumption) (by assumption)) | ((with_reducible apply Rt.ol); first | assumption | exact cell_kp (by assumption) (by assumption)) | ((with_reducible apply Rt.ckR); focus ((repeat (first | (with_reducible (first | refine Rt.fin ?_ | refine Rt.tL ?_ | refine Rt.tI ?_ | refine Rt.tB ?_ | refine Rt.tS ?_ | refine Rt.tP ?_ | refine Rt.tD ?_ | refine Rt.tM ?_ | refine Rt.tC ?_ | refine Rt.tN ?_ | refine Rt.tA ?_ | refine Rt.tG ?_ | refine Rt.tF ?_ | refine Rt.os ?_ | refine Rt.clS ?_ | refine Rt.jmN ?_ | refine Rt.jbN ?_ | refine Rt.jbE ?_)) | ((with_reducible (first | apply Rt.ld0 | apply Rt.ld1 | apply Rt.ld2 | apply Rt.ld3 | apply Rt.ld4 | apply Rt.ld5)); first | assumption | exact Lc.kp (by assumption) (by assumption)) | ((with_reducible apply Rt.ol); first | assumption | exact cell_kp (by assumption) (by assumption)))); exact Rt.some' rfl))))
      refine Rt.cD (fun h => ?_) fun h => ?_
      · (repeat (first | (with_reducible (first | refine Rt.fin ?_ | refine Rt.tL ?_ | refine Rt.tI ?_ | refine Rt.tB ?_ | refine Rt.tS ?_ | refine Rt.tP ?_ | refine Rt.tD ?_ | refine Rt.tM ?_ | refine Rt.tC ?_ | refine Rt.tN ?_ | refine Rt.tA ?_ | refine Rt.tG ?_ | refine Rt.tF ?_ | refine Rt.os ?_ | refine Rt.clS ?_ | refine Rt.jmN ?_ | refine Rt.jbN ?_ | refine Rt.jbE ?_)) | ((with_reducible (first | apply Rt.ld0 | apply Rt.ld1 | apply Rt.ld2 | apply Rt.ld3 | apply Rt.ld4 | apply Rt.ld5)); first | assumption | exact Lc.kp (by assumption) (by assumption)) | ((with_reducible apply Rt.ol); first | assumption | exact cell_kp (by assumption) (by assumption)) | ((with_reducible apply Rt.ckR); focus ((repeat (first | (with_reducible (first | refine Rt.fin ?_ | refine Rt.tL ?_ | refine Rt.tI ?_ | refine Rt.tB ?_ | refine Rt.tS ?_ | refine Rt.tP ?_ | refine Rt.tD ?_ | refine Rt.tM ?_ | refine Rt.tC ?_ | refine Rt.tN ?_ | refine Rt.tA ?_ | refine Rt.tG ?_ | refine Rt.tF ?_ | refine Rt.os ?_ | refine Rt.clS ?_ | refine Rt.jmN ?_ | refine Rt.jbN ?_ | refine Rt.jbE ?_)) | ((with_reducible (first | apply Rt.ld0 | apply Rt.ld1 | apply Rt.ld2 | apply Rt.ld3 | apply Rt.ld4 | apply Rt.ld5)); first | assumption | exact Lc.kp (by assumption) (by assumption)) | ((with_reducible apply Rt.ol); first | assumption | exact cell_kp (by assumption) (by assumption)))); exact Rt.some' rfl))))
        exact Rt.endB (by simp only [decide_eq_true_eq]; omega) k1
      · exact Rt.endB (by simp only [Bool.false_eq_true, false_iff]; omega) k1
    · exact Rt.endB (by simp only [Bool.false_eq_true, false_iff]; omega) k1
  (repeat (first | (with_reducible (first | refine Rt.fin ?_ | refine Rt.tL ?_ | refine Rt.tI ?_ | refine Rt.tB ?_ | refine Rt.tS ?_ | refine Rt.tP ?_ | refine Rt.tD ?_ | refine Rt.tM ?_ | refine Rt.tC ?_ | refine Rt.tN ?_ | refine Rt.tA ?_ | refine Rt.tG ?_ | refine Rt.tF ?_ | refine Rt.os ?_ | refine Rt.clS ?_ | refine Rt.jmN ?_ | refine Rt.jbN ?_ | refine Rt.jbE ?_)) | ((with_reducible (first | apply Rt.ld0 | apply Rt.ld1 | apply Rt.ld2 | apply Rt.ld3 | apply Rt.ld4 | apply Rt.ld5)); first | assumption | exact Lc.kp (by assumption) (by assumption)) | ((with_reducible apply Rt.ol); first | assumption | exact cell_kp (by assumption) (by assumption)) | ((with_reducible apply Rt.ckR); focus ((repeat (first | (with_reducible (first | refine Rt.fin ?_ | refine Rt.tL ?_ | refine Rt.tI ?_ | refine Rt.tB ?_ | refine Rt.tS ?_ | refine Rt.tP ?_ | refine Rt.tD ?_ | refine Rt.tM ?_ | refine Rt.tC ?_ | refine Rt.tN ?_ | refine Rt.tA ?_ | refine Rt.tG ?_ | refine Rt.tF ?_ | refine Rt.os ?_ | refine Rt.clS ?_ | refine Rt.jmN ?_ | refine Rt.jbN ?_ | refine Rt.jbE ?_)) | ((with_reducible (first | apply Rt.ld0 | apply Rt.ld1 | apply Rt.ld2 | apply Rt.ld3 | apply Rt.ld4 | apply Rt.ld5)); first | assumption | exact Lc.kp (by assumption) (by assumption)) | ((with_reducible apply Rt.ol); first | assumption | exact cell_kp (by assumption) (by assumption)))); exact Rt.some' rfl))))
  refine Rt.cQ (fun h => ?_) fun h => ?_
  · (repeat (first | (with_reducible (first | refine Rt.fin ?_ | refine Rt.tL ?_ | refine Rt.tI ?_ | refine Rt.tB ?_ | refine Rt.tS ?_ | refine Rt.tP ?_ | refine Rt.tD ?_ | refine Rt.tM ?_ | refine Rt.tC ?_ | refine Rt.tN ?_ | refine Rt.tA ?_ | refine Rt.tG ?_ | refine Rt.tF ?_ | refine Rt.os ?_ | refine Rt.clS ?_ | refine Rt.jmN ?_ | refine Rt.jbN ?_ | refine Rt.jbE ?_)) | ((with_reducible (first | apply Rt.ld0 | apply Rt.ld1 | apply Rt.ld2 | apply Rt.ld3 | apply Rt.ld4 | apply Rt.ld5)); first | assumption | exact Lc.kp (by assumption) (by assumption)) | ((with_reducible apply Rt.ol); first | assumption | exact cell_kp (by assumption) (by assumption)) | ((with_reducible apply Rt.ckR); focus ((repeat (first | (with_reducible (first | refine Rt.fin ?_ | refine Rt.tL ?_ | refine Rt.tI ?_ | refine Rt.tB ?_ | refine Rt.tS ?_ | refine Rt.tP ?_ | refine Rt.tD ?_ | refine Rt.tM ?_ | refine Rt.tC ?_ | refine Rt.tN ?_ | refine Rt.tA ?_ | refine Rt.tG ?_ | refine Rt.tF ?_ | refine Rt.os ?_ | refine Rt.clS ?_ | refine Rt.jmN ?_ | refine Rt.jbN ?_ | refine Rt.jbE ?_)) | ((with_reducible (first | apply Rt.ld0 | apply Rt.ld1 | apply Rt.ld2 | apply Rt.ld3 | apply Rt.ld4 | apply Rt.ld5)); first | assumption | exact Lc.kp (by assumption) (by assumption)) | ((with_reducible apply Rt.ol); first | assumption | exact cell_kp (by assumption) (by assumption)))); exact Rt.some' rfl))))
    refine Rt.cQ (fun h => ?_) fun h => ?_
    · exact tail (by omega) rfl
    · (repeat (first | (with_reducible (first | refine Rt.fin ?_ | refine Rt.tL ?_ | refine Rt.tI ?_ | refine Rt.tB ?_ | refine Rt.tS ?_ | refine Rt.tP ?_ | refine Rt.tD ?_ | refine Rt.tM ?_ | refine Rt.tC ?_ | refine Rt.tN ?_ | refine Rt.tA ?_ | refine Rt.tG ?_ | refine Rt.tF ?_ | refine Rt.os ?_ | refine Rt.clS ?_ | refine Rt.jmN ?_ | refine Rt.jbN ?_ | refine Rt.jbE ?_)) | ((with_reducible (first | apply Rt.ld0 | apply Rt.ld1 | apply Rt.ld2 | apply Rt.ld3 | apply Rt.ld4 | apply Rt.ld5)); first | assumption | exact Lc.kp (by assumption) (by assumption)) | ((with_reducible apply Rt.ol); first | assumption | exact cell_kp (by assumption) (by assumption)) | ((with_reducible apply Rt.ckR); focus ((repeat (first | (with_reducible (first | refine Rt.fin ?_ | refine Rt.tL ?_ | refine Rt.tI ?_ | refine Rt.tB ?_ | refine Rt.tS ?_ | refine Rt.tP ?_ | refine Rt.tD ?_ | refine Rt.tM ?_ | refine Rt.tC ?_ | refine Rt.tN ?_ | refine Rt.tA ?_ | refine Rt.tG ?_ | refine Rt.tF ?_ | refine Rt.os ?_ | refine Rt.clS ?_ | refine Rt.jmN ?_ | refine Rt.jbN ?_ | refine Rt.jbE ?_)) | ((with_reducible (first | apply Rt.ld0 | apply Rt.ld1 | apply Rt.ld2 | apply Rt.ld3 | apply Rt.ld4 | apply Rt.ld5)); first | assumption | exact Lc.kp (by assumption) (by assumption)) | ((with_reducible apply Rt.ol); first | assumption | exact cell_kp (by assumption) (by assumption)))); exact Rt.some' rfl))))
      refine Rt.cQ (fun h => ?_) fun h => ?_
      · exact tail (by omega) rfl
      · exact Rt.endB (by simp only [Bool.false_eq_true, false_iff]; omega) k1
  · (repeat (first | (with_reducible (first | refine Rt.fin ?_ | refine Rt.tL ?_ | refine Rt.tI ?_ | refine Rt.tB ?_ | refine Rt.tS ?_ | refine Rt.tP ?_ | refine Rt.tD ?_ | refine Rt.tM ?_ | refine Rt.tC ?_ | refine Rt.tN ?_ | refine Rt.tA ?_ | refine Rt.tG ?_ | refine Rt.tF ?_ | refine Rt.os ?_ | refine Rt.clS ?_ | refine Rt.jmN ?_ | refine Rt.jbN ?_ | refine Rt.jbE ?_)) | ((with_reducible (first | apply Rt.ld0 | apply Rt.ld1 | apply Rt.ld2 | apply Rt.ld3 | apply Rt.ld4 | apply Rt.ld5)); first | assumption | exact Lc.kp (by assumption) (by assumption)) | ((with_reducible apply Rt.ol); first | assumption | exact cell_kp (by assumption) (by assumption)) | ((with_reducible apply Rt.ckR); focus ((repeat (first | (with_reducible (first | refine Rt.fin ?_ | refine Rt.tL ?_ | refine Rt.tI ?_ | refine Rt.tB ?_ | refine Rt.tS ?_ | refine Rt.tP ?_ | refine Rt.tD ?_ | refine Rt.tM ?_ | refine Rt.tC ?_ | refine Rt.tN ?_ | refine Rt.tA ?_ | refine Rt.tG ?_ | refine Rt.tF ?_ | refine Rt.os ?_ | refine Rt.clS ?_ | refine Rt.jmN ?_ | refine Rt.jbN ?_ | refine Rt.jbE ?_)) | ((with_reducible (first | apply Rt.ld0 | apply Rt.ld1 | apply Rt.ld2 | apply Rt.ld3 | apply Rt.ld4 | apply Rt.ld5)); first | assumption | exact Lc.kp (by assumption) (by assumption)) | ((with_reducible apply Rt.ol); first | assumption | exact cell_kp (by assumption) (by assumption)))); exact Rt.some' rfl))))
    refine Rt.cQ (fun h => ?_) fun h => ?_
    · exact tail (by omega) rfl
    · exact Rt.endB (by simp only [Bool.false_eq_true, false_iff]; omega) k1
theorem Check_l0 (hs : Ev opEl w A l c xs) (hl : l ≤ 100) : ∀ (q i j : Nat) (w' : World), i + q = l → q < j → Kp w w' → (∀ o ∈ xs.take i, rightO o) →
    Rt (batch_Check.l0 n j A l c (l : Int) (i : Int) w') fun r => Kp w r.w ∧ (r.ex = .exit 0 ∧ r.vals = [] ∧ (∀ o ∈ xs, rightO o) ∨ r.ex = .ret ∧ r.vals = [.int .i64 1] ∧ ¬(∀ o ∈ xs, rightO o)) := by
  intro q
  have hxl := hs.len
  induction q with
  | zero =>
    intro i j w' hi hj hk hr
    obtain ⟨j, rfl⟩ : ∃ j', j = j' + 1 := ⟨j - 1, by omega⟩
    rw [batch_Check.l0_succ]
    exact Rt.cDF (by omega) (Rt.some' ⟨hk, .inl ⟨rfl, rfl, by rwa [List.take_of_length_le (by omega)] at hr⟩⟩)
  | succ q ih =>
    intro i j w' hi hj hk hr
    obtain ⟨j, rfl⟩ : ∃ j', j = j' + 1 := ⟨j - 1, by omega⟩
    rw [batch_Check.l0_succ]
    refine Rt.cDT (by omega) (Rt.ixO (hs.kp hk).sl (by omega) (by omega) fun x a k B m d C p q ex hv c0 c1 c2 => ?_)
    (repeat (first | (with_reducible (first | refine Rt.fin ?_ | refine Rt.tL ?_ | refine Rt.tI ?_ | refine Rt.tB ?_ | refine Rt.tS ?_ | refine Rt.tP ?_ | refine Rt.tD ?_ | refine Rt.tM ?_ | refine Rt.tC ?_ | refine Rt.tN ?_ | refine Rt.tA ?_ | refine Rt.tG ?_ | refine Rt.tF ?_ | refine Rt.os ?_ | refine Rt.clS ?_ | refine Rt.jmN ?_ | refine Rt.jbN ?_ | refine Rt.jbE ?_)) | ((with_reducible (first | apply Rt.ld0 | apply Rt.ld1 | apply Rt.ld2 | apply Rt.ld3 | apply Rt.ld4 | apply Rt.ld5)); first | assumption | exact Lc.kp (by assumption) (by assumption)) | ((with_reducible apply Rt.ol); first | assumption | exact cell_kp (by assumption) (by assumption)) | ((with_reducible apply Rt.ckR); focus ((repeat (first | (with_reducible (first | refine Rt.fin ?_ | refine Rt.tL ?_ | refine Rt.tI ?_ | refine Rt.tB ?_ | refine Rt.tS ?_ | refine Rt.tP ?_ | refine Rt.tD ?_ | refine Rt.tM ?_ | refine Rt.tC ?_ | refine Rt.tN ?_ | refine Rt.tA ?_ | refine Rt.tG ?_ | refine Rt.tF ?_ | refine Rt.os ?_ | refine Rt.clS ?_ | refine Rt.jmN ?_ | refine Rt.jbN ?_ | refine Rt.jbE ?_)) | ((with_reducible (first | apply Rt.ld0 | apply Rt.ld1 | apply Rt.ld2 | apply Rt.ld3 | apply Rt.ld4 | apply Rt.ld5)); first | assumption | exact Lc.kp (by assumption) (by assumption)) | ((with_reducible apply Rt.ol); first | assumption | exact cell_kp (by assumption) (by assumption)))); exact Rt.some' rfl))))
    refine Rt.al3 fun w1 l1 k1 _ => ?_
    (repeat (first | (with_reducible (first | refine Rt.fin ?_ | refine Rt.tL ?_ | refine Rt.tI ?_ | refine Rt.tB ?_ | refine Rt.tS ?_ | refine Rt.tP ?_ | refine Rt.tD ?_ | refine Rt.tM ?_ | refine Rt.tC ?_ | refine Rt.tN ?_ | refine Rt.tA ?_ | refine Rt.tG ?_ | refine Rt.tF ?_ | refine Rt.os ?_ | refine Rt.clS ?_ | refine Rt.jmN ?_ | refine Rt.jbN ?_ | refine Rt.jbE ?_)) | ((with_reducible (first | apply Rt.ld0 | apply Rt.ld1 | apply Rt.ld2 | apply Rt.ld3 | apply Rt.ld4 | apply Rt.ld5)); first | assumption | exact Lc.kp (by assumption) (by assumption)) | ((with_reducible apply Rt.ol); first | assumption | exact cell_kp (by assumption) (by assumption)) | ((with_reducible apply Rt.ckR); focus ((repeat (first | (with_reducible (first | refine Rt.fin ?_ | refine Rt.tL ?_ | refine Rt.tI ?_ | refine Rt.tB ?_ | refine Rt.tS ?_ | refine Rt.tP ?_ | refine Rt.tD ?_ | refine Rt.tM ?_ | refine Rt.tC ?_ | refine Rt.tN ?_ | refine Rt.tA ?_ | refine Rt.tG ?_ | refine Rt.tF ?_ | refine Rt.os ?_ | refine Rt.clS ?_ | refine Rt.jmN ?_ | refine Rt.jbN ?_ | refine Rt.jbE ?_)) | ((with_reducible (first | apply Rt.ld0 | apply Rt.ld1 | apply Rt.ld2 | apply Rt.ld3 | apply Rt.ld4 | apply Rt.ld5)); first | assumption | exact Lc.kp (by assumption) (by assumption)) | ((with_reducible apply Rt.ol); first | assumption | exact cell_kp (by assumption) (by assumption)))); exact Rt.some' rfl))))
    refine Rt.cBo (right_spec (hv.kp k1)) fun b w2 hb k2 => ?_
    have hk2 := (hk.tr k1).tr k2
    have hmem : x ∈ xs := List.mem_of_getElem? ex
    cases b with
    | false => exact Rt.cT rfl (Rt.some' ⟨hk2, .inr ⟨rfl, rfl, fun h => by simpa using hb.2 (h x hmem)⟩⟩)
    | true =>
      refine Rt.cF rfl ?_
      rw [i64_in _ (by omega), show ((i : Int) + 1) = ((i + 1 : Nat) : Int) by omega]
      refine ih (i + 1) j w2 (by omega) (by omega) hk2 fun o ho => ?_
      have ex' : xs[i]? = some x := by simpa using ex
      rw [List.take_add_one, ex', List.mem_append] at ho
      rcases ho with ho | ho
      · exact hr o ho
      · simp at ho; subst ho; exact hb.1 rfl
theorem Check_spec (hs : Ev opEl w A l c xs) (hn : 200 < n) : Rt (batch_Check n [.slice A l c] w) (RI .i64 (checkC xs) w) := by
  have hxl := hs.len
  rw [batch_Check_eq]
  unfold checkC
  refine Rt.fin (Rt.cD (fun h => ?_) fun h1 => Rt.cD (fun h => ?_) fun h2 => ?_)
  · exact Rt.endI (by rw [if_pos (by omega)]) (Kp.rfl' w)
  · exact Rt.endI (by rw [if_pos (by omega)]) (Kp.rfl' w)
  · rw [if_neg (by omega)]
    refine Rt.jb (Rt.mono (Check_l0 (n := n) hs (by omega) l 0 n w (by omega) (by omega) (Kp.rfl' w) (by simp)) ?_)
    rintro ⟨ex, vs, w1⟩ ⟨k1, ⟨h3, h4, h5⟩ | ⟨h3, h4, h5⟩⟩
    · dsimp only at h3 h4 k1
      subst h3 h4
      refine .inl ⟨.inr rfl, ?_⟩
      (repeat (first | (with_reducible (first | refine Rt.fin ?_ | refine Rt.tL ?_ | refine Rt.tI ?_ | refine Rt.tB ?_ | refine Rt.tS ?_ | refine Rt.tP ?_ | refine Rt.tD ?_ | refine Rt.tM ?_ | refine Rt.tC ?_ | refine Rt.tN ?_ | refine Rt.tA ?_ | refine Rt.tG ?_ | refine Rt.tF ?_ | refine Rt.os ?_ | refine Rt.clS ?_ | refine Rt.jmN ?_ | refine Rt.jbN ?_ | refine Rt.jbE ?_)) | ((with_reducible (first | apply Rt.ld0 | apply Rt.ld1 | apply Rt.ld2 | apply Rt.ld3 | apply Rt.ld4 | apply Rt.ld5)); first | assumption | exact Lc.kp (by assumption) (by assumption)) | ((with_reducible apply Rt.ol); first | assumption | exact cell_kp (by assumption) (by assumption)) | ((with_reducible apply Rt.ckR); focus ((repeat (first | (with_reducible (first | refine Rt.fin ?_ | refine Rt.tL ?_ | refine Rt.tI ?_ | refine Rt.tB ?_ | refine Rt.tS ?_ | refine Rt.tP ?_ | refine Rt.tD ?_ | refine Rt.tM ?_ | refine Rt.tC ?_ | refine Rt.tN ?_ | refine Rt.tA ?_ | refine Rt.tG ?_ | refine Rt.tF ?_ | refine Rt.os ?_ | refine Rt.clS ?_ | refine Rt.jmN ?_ | refine Rt.jbN ?_ | refine Rt.jbE ?_)) | ((with_reducible (first | apply Rt.ld0 | apply Rt.ld1 | apply Rt.ld2 | apply Rt.ld3 | apply Rt.ld4 | apply Rt.ld5)); first | assumption | exact Lc.kp (by assumption) (by assumption)) | ((with_reducible apply Rt.ol); first | assumption | exact cell_kp (by assumption) (by assumption)))); exact Rt.some' rfl))))
      exact Rt.endI (by rw [if_pos h5]) k1
    · dsimp only at h3 h4 k1
      subst h3 h4
      exact .inr ⟨rfl, rfl, w1, by rw [if_neg h5], k1⟩
theorem nilB (w : World) : Bv .u8 w none 0 0 [] := ⟨Sl.nil .., fun _ => ⟨rfl, rfl⟩, Nat.le_refl _, Nat.zero_le _, by simp⟩
end
end Go.Proofs.YtdcdgmiojlldaaaDoor.Ba
/- Batches: the law of limits; arguments. -/
namespace Go.Proofs.YtdcdgmiojlldaaaDoor.Ba
open Go Big Go.RowKit Go.IntWalk
set_option linter.unusedVariables false
set_option linter.unusedSimpArgs false
section
variable {α : Type} {Q : α → Prop} {n : Nat} {w w0 : World} {A B C : Option Addr} {l c m d : Nat} {k : Int} {x : OpD} {xs ys : List OpD}
theorem len3 {l : List Value} (h : l.length = 3) : ∃ a b c, l = [a, b, c] := by
  match l, h with
  | [a, b, c], _ => exact ⟨a, b, c, rfl⟩
theorem op_open {H : Type} {enc : TypeId × Value → H} {W : World} {base : Nat} {spare : Nat → Bool} {held : Bool} (n : Nat) (cs : List Value) (y : DataW H × List MemPlace) (h : DataW.trod enc Tryd.prog W base spare held n 30 cs = some y) : ∃ x, opEl.rd W cs x := by
  obtain ⟨hl, hg⟩ := st_open Tryd.underlying30 h
  have hl : cs.length = 3 := hl.trans (by kernel_rfl)
  obtain ⟨c0, c1, c2, rfl⟩ := len3 hl
  clear hl h
  obtain ⟨_, _, g0⟩ := hg 0 _ rfl
  obtain ⟨_, _, g1⟩ := hg 1 _ rfl
  obtain ⟨_, _, g2⟩ := hg 2 _ rfl
  obtain ⟨k, e0, r0⟩ := int_open (k := .i64) Tryd.underlying3 g0
  obtain ⟨A, l, c, xs, e1, b1⟩ := bv_open (e := 5) (k := .u8) Tryd.underlying28 Tryd.underlying5 (by kernel_rfl) g1
  obtain ⟨B, m, d, ys, e2, b2⟩ := bv_open (e := 5) (k := .u8) Tryd.underlying28 Tryd.underlying5 (by kernel_rfl) g2
  have f0 : c0 = Value.int .i64 k := (List.cons.inj ((show [c0] = List.take (Tryd.prog.cellsOf 3) (List.drop 0 [c0, c1, c2]) by rw [show Tryd.prog.cellsOf 3 = 1 by kernel_rfl]; rfl).trans e0)).1
  have f1 : c1 = Value.slice A l c := (List.cons.inj ((show [c1] = List.take (Tryd.prog.cellsOf 28) (List.drop 1 [c0, c1, c2]) by rw [show Tryd.prog.cellsOf 28 = 1 by kernel_rfl]; rfl).trans e1)).1
  have f2 : c2 = Value.slice B m d := (List.cons.inj ((show [c2] = List.take (Tryd.prog.cellsOf 28) (List.drop 2 [c0, c1, c2]) by rw [show Tryd.prog.cellsOf 28 = 1 by kernel_rfl]; rfl).trans e2)).1
  clear e0 e1 e2
  subst f0 f1 f2
  exact ⟨⟨k, xs, ys⟩, k, A, l, c, B, m, d, rfl, rfl, r0, b1, b2⟩
end
end Go.Proofs.YtdcdgmiojlldaaaDoor.Ba
/- Batches: how they are written, and when two are one. -/
namespace Go.Proofs.YtdcdgmiojlldaaaDoor.Ba
open Go Big Go.RowKit Go.IntWalk Var Low Par
set_option linter.unusedVariables false
set_option linter.unusedSimpArgs false
def encO (o : OpD) : List Int := [o.kind % 256] ++ enc o.key.length ++ o.key ++ (if o.kind = 1 then enc o.val.length ++ o.val else [])
def bodyB (l : List OpD) : List Int := (l.map encO).flatten
def encB (s : Int) (l : List OpD) : List Int := lowB 8 s ++ lowB 4 l.length ++ bodyB l
def numC (s : Int) (n : Nat) : Prop := 1 ≤ s ∧ s ≤ 72057594037927935 ∧ (n : Int) - 1 ≤ 72057594037927935 - s
open Classical in
noncomputable def bytesB (s : Int) (l : List OpD) : List Int × Int := if checkC l ≠ 0 then ([], checkC l) else if numC s l.length then (encB s l, 0) else ([], 1)
def ROe (k : IntKind) (e : TypeId) (w0 : World) (x : List Int × Int) : List Value × World → Prop := fun r => ∃ B d w', r = ([.slice B x.1.length d, .int .i64 x.2], w') ∧ Own k e w' w0.heap.size (.slice B x.1.length d) x.1 ∧ Kp w0 w'
theorem enc_len10 {x : Nat} (h : x < 2 ^ 64) : (enc x).length ≤ 10 := enc_len 9 x (by omega)
theorem checkC_ok {l : List OpD} : checkC l = 0 ↔ 1 ≤ l.length ∧ l.length ≤ 100 ∧ ∀ o ∈ l, rightO o := by
  unfold checkC
  by_cases h1 : l.length < 1 ∨ l.length > 100
  · rw [if_pos h1]; simp; omega
  · rw [if_neg h1]
    by_cases h2 : ∀ o ∈ l, rightO o
    · rw [if_pos h2]; simp only [true_iff]; exact ⟨by omega, by omega, h2⟩
    · rw [if_neg h2]; simp [h2]
theorem encO_len {o : OpD} (h : rightO o) : (encO o).length ≤ 5000 := by
  unfold rightO at h
  have h1 := enc_len10 (x := o.key.length) (by omega)
  have h2 := enc_len10 (x := o.val.length) (by omega)
  unfold encO
  simp only [List.length_append, List.length_singleton]
  split
  · simp only [List.length_append]; omega
  · simp only [List.length_nil]; omega
theorem bodyB_len : ∀ {l : List OpD}, (∀ o ∈ l, rightO o) → (bodyB l).length ≤ 5000 * l.length
  | [], _ => by simp [bodyB]
  | o :: l, h => by
    have h1 := encO_len (h o List.mem_cons_self)
    have h2 := bodyB_len (l := l) fun x hx => h x (List.mem_cons_of_mem _ hx)
    have e : bodyB (o :: l) = encO o ++ bodyB l := by simp [bodyB]
    rw [e, List.length_append, List.length_cons]; omega
theorem bodyB_snoc {l : List OpD} {i : Nat} {o : OpD} (h : l[i]? = some o) : bodyB (l.take (i + 1)) = bodyB (l.take i) ++ encO o := by
  rw [List.take_add_one, h]; simp [bodyB]
section
variable {α : Type} {Q : α → Prop} {n : Nat} {w w0 : World} {A B C : Option Addr} {l c m d : Nat} {k : Int} {x : OpD} {xs ys : List OpD} {bs : List Int}
theorem numbered_spec {s : Int} {m : Nat} (hs : 0 ≤ s ∧ s < 2 ^ 64) (hm : 1 ≤ m) (hm2 : m ≤ 2 ^ 40) : Rt (batch_numbered n [.int .u64 s, .int .i64 (m : Int)] w) (RB (numC s m) w) := by
  rw [batch_numbered_eq]
  unfold numC
  refine Rt.fin (Rt.cD (fun h1 => Rt.cD (fun h2 => ?_) fun h2 => ?_) fun h1 => ?_)
  · rw [u64_in (72057594037927935 - s) (by omega), i64_in _ (by omega), u64_in _ (by omega)]
    exact Rt.endB (by rw [decide_eq_true_eq]; omega) (Kp.rfl' w)
  · exact Rt.endB (by simp only [Bool.false_eq_true, false_iff]; omega) (Kp.rfl' w)
  · exact Rt.endB (by simp only [Bool.false_eq_true, false_iff]; omega) (Kp.rfl' w)
theorem Rnumbered_spec {s : Int} {m : Nat} (hs : 0 ≤ s ∧ s < 2 ^ 64) (hm : 1 ≤ m) (hm2 : m ≤ 2 ^ 40) : Rt (butteryref1_numbered n [.int .u64 s, .int .i64 (m : Int)] w) (RB (numC s m) w) := by
  rw [butteryref1_numbered_eq]
  unfold numC
  refine Rt.fin (Rt.cD (fun h1 => Rt.cD (fun h2 => ?_) fun h2 => ?_) fun h1 => ?_)
  · rw [u64_in (72057594037927935 - s) (by omega), i64_in _ (by omega), u64_in _ (by omega)]
    exact Rt.endB (by rw [decide_eq_true_eq]; omega) (Kp.rfl' w)
  · exact Rt.endB (by simp only [Bool.false_eq_true, false_iff]; omega) (Kp.rfl' w)
  · exact Rt.endB (by simp only [Bool.false_eq_true, false_iff]; omega) (Kp.rfl' w)
theorem low_l0 {v : Int} {mm : Nat} (hv : 0 ≤ v ∧ v < 2 ^ 64) (hm : mm ≤ 8) {base : Nat} (hb0 : w0.heap.size ≤ base) : ∀ (q i j : Nat) (A : Option Addr) (c : Nat) (w : World), i + q = mm → q < j → bs.length ≤ 2 ^ 38 → Own .u8 5 w base (.slice A (bs.length + i) c) (bs ++ lowB i v) → Kp w0 w → base ≤ w.heap.size →
    Rt (batch_low.l0 n j A (bs.length + i) c (v / 256 ^ i) (mm : Int) (i : Int) w) fun r => r.ex = .exit 0 ∧ ∃ B d, r.vals = [.slice B (bs.length + mm) d] ∧ Own .u8 5 r.w base (.slice B (bs.length + mm) d) (bs ++ lowB mm v) ∧ Kp w0 r.w := by
  obtain ⟨t, hT⟩ := slB
  intro q
  induction q with
  | zero =>
    intro i j A c w hi hj hl ho hk hbs
    obtain ⟨j, rfl⟩ : ∃ j', j = j' + 1 := ⟨j - 1, by omega⟩
    obtain rfl : i = mm := by omega
    rw [batch_low.l0_succ]
    exact Rt.cDF (by omega) (Rt.some' ⟨rfl, A, c, rfl, ho, hk⟩)
  | succ q ih =>
    intro i j A c w hi hj hl ho hk hbs
    obtain ⟨j, rfl⟩ : ∃ j', j = j' + 1 := ⟨j - 1, by omega⟩
    rw [batch_low.l0_succ, u8w]
    refine Rt.cDT (by omega) (Rt.alo [_] 1 rfl rfl (by decide) fun w1 o1 k1 => ?_)
    refine Rt.app hT (ho.kp k1) o1.sl.2 (fun h => by cases h) (by rw [List.length_append, lowB_len]; omega) (Nat.le_trans hbs k1.size) fun B d w2 o2 hk2 _ hsz => ?_
    (repeat (first | (with_reducible (first | refine Rt.fin ?_ | refine Rt.tL ?_ | refine Rt.tI ?_ | refine Rt.tB ?_ | refine Rt.tS ?_ | refine Rt.tP ?_ | refine Rt.tD ?_ | refine Rt.tM ?_ | refine Rt.tC ?_ | refine Rt.tN ?_ | refine Rt.tA ?_ | refine Rt.tG ?_ | refine Rt.tF ?_ | refine Rt.os ?_ | refine Rt.clS ?_ | refine Rt.jmN ?_ | refine Rt.jbN ?_ | refine Rt.jbE ?_)) | ((with_reducible (first | apply Rt.ld0 | apply Rt.ld1 | apply Rt.ld2 | apply Rt.ld3 | apply Rt.ld4 | apply Rt.ld5)); first | assumption | exact Lc.kp (by assumption) (by assumption)) | ((with_reducible apply Rt.ol); first | assumption | exact cell_kp (by assumption) (by assumption)) | ((with_reducible apply Rt.ckR); focus ((repeat (first | (with_reducible (first | refine Rt.fin ?_ | refine Rt.tL ?_ | refine Rt.tI ?_ | refine Rt.tB ?_ | refine Rt.tS ?_ | refine Rt.tP ?_ | refine Rt.tD ?_ | refine Rt.tM ?_ | refine Rt.tC ?_ | refine Rt.tN ?_ | refine Rt.tA ?_ | refine Rt.tG ?_ | refine Rt.tF ?_ | refine Rt.os ?_ | refine Rt.clS ?_ | refine Rt.jmN ?_ | refine Rt.jbN ?_ | refine Rt.jbE ?_)) | ((with_reducible (first | apply Rt.ld0 | apply Rt.ld1 | apply Rt.ld2 | apply Rt.ld3 | apply Rt.ld4 | apply Rt.ld5)); first | assumption | exact Lc.kp (by assumption) (by assumption)) | ((with_reducible apply Rt.ol); first | assumption | exact cell_kp (by assumption) (by assumption)))); exact Rt.some' rfl))))
    have hkk := hk2 w0 (hk.tr k1) hb0
    have e : Int.fdiv (v / 256 ^ i) (2 ^ 8) = v / 256 ^ (i + 1) := by
      rw [fdivI, Int.ediv_ediv_of_nonneg (Int.le_of_lt (Int.pow_pos (by decide))), Int.pow_succ]; rfl
    rw [List.length_append, lowB_len, List.append_assoc, ← lowB_snoc] at o2
    rw [List.length_append, lowB_len, i64_in _ (by omega), show ((i : Int) + 1) = ((i + 1 : Nat) : Int) by omega, e]
    exact ih (i + 1) j B d w2 (by omega) (by omega) hl o2 hkk (by have := k1.size; omega)
theorem low_spec {v : Int} {mm : Nat} (hv : 0 ≤ v ∧ v < 2 ^ 64) (hm : mm ≤ 8) {base : Nat} (hb0 : w0.heap.size ≤ base) (ho : Own .u8 5 w base (.slice A bs.length c) bs) (hk : Kp w0 w) (hbs : base ≤ w.heap.size) (hl : bs.length ≤ 2 ^ 38) (hn : 10 < n) :
    Rt (batch_low n [.slice A bs.length c, .int .u64 v, .int .i64 (mm : Int)] w) fun r => ∃ B d w', r = ([.slice B (bs ++ lowB mm v).length d], w') ∧ Own .u8 5 w' base (.slice B (bs ++ lowB mm v).length d) (bs ++ lowB mm v) ∧ Kp w0 w' := by
  rw [batch_low_eq]
  have h := low_l0 (n := n) (bs := bs) hv hm hb0 mm 0 n A c w (by omega) (by omega) hl (by simpa [lowB] using ho) hk hbs
  rw [Int.pow_zero, Int.ediv_one] at h
  refine Rt.fin (Rt.jb (Rt.mono h ?_))
  rintro ⟨ex, vs, w1⟩ ⟨h1, B, d, h2, h3, h4⟩
  dsimp only at h1 h2 h3 h4
  subst h1 h2
  refine .inl ⟨.inr rfl, ?_⟩
  (repeat (first | (with_reducible (first | refine Rt.fin ?_ | refine Rt.tL ?_ | refine Rt.tI ?_ | refine Rt.tB ?_ | refine Rt.tS ?_ | refine Rt.tP ?_ | refine Rt.tD ?_ | refine Rt.tM ?_ | refine Rt.tC ?_ | refine Rt.tN ?_ | refine Rt.tA ?_ | refine Rt.tG ?_ | refine Rt.tF ?_ | refine Rt.os ?_ | refine Rt.clS ?_ | refine Rt.jmN ?_ | refine Rt.jbN ?_ | refine Rt.jbE ?_)) | ((with_reducible (first | apply Rt.ld0 | apply Rt.ld1 | apply Rt.ld2 | apply Rt.ld3 | apply Rt.ld4 | apply Rt.ld5)); first | assumption | exact Lc.kp (by assumption) (by assumption)) | ((with_reducible apply Rt.ol); first | assumption | exact cell_kp (by assumption) (by assumption)) | ((with_reducible apply Rt.ckR); focus ((repeat (first | (with_reducible (first | refine Rt.fin ?_ | refine Rt.tL ?_ | refine Rt.tI ?_ | refine Rt.tB ?_ | refine Rt.tS ?_ | refine Rt.tP ?_ | refine Rt.tD ?_ | refine Rt.tM ?_ | refine Rt.tC ?_ | refine Rt.tN ?_ | refine Rt.tA ?_ | refine Rt.tG ?_ | refine Rt.tF ?_ | refine Rt.os ?_ | refine Rt.clS ?_ | refine Rt.jmN ?_ | refine Rt.jbN ?_ | refine Rt.jbE ?_)) | ((with_reducible (first | apply Rt.ld0 | apply Rt.ld1 | apply Rt.ld2 | apply Rt.ld3 | apply Rt.ld4 | apply Rt.ld5)); first | assumption | exact Lc.kp (by assumption) (by assumption)) | ((with_reducible apply Rt.ol); first | assumption | exact cell_kp (by assumption) (by assumption)))); exact Rt.some' rfl))))
  have e : (bs ++ lowB mm v).length = bs.length + mm := by rw [List.length_append, lowB_len]
  exact Rt.some' ⟨rfl, B, d, w1, by rw [e], by rw [e]; exact h3, h4⟩
theorem Bytes_l0 (hs : Ev opEl w0 A l c xs) (hr : ∀ o ∈ xs, rightO o) (hl : l ≤ 100) {h0 : List Int} (hh : h0.length ≤ 100) (hn : 200 < n) : ∀ (q i j : Nat) (B : Option Addr) (d : Nat) (w : World), i + q = l → q < j → Kp w0 w → Own .u8 5 w w0.heap.size (.slice B (h0 ++ bodyB (xs.take i)).length d) (h0 ++ bodyB (xs.take i)) →
    Rt (batch_Bytes.l0 n j B (h0 ++ bodyB (xs.take i)).length d A l c (l : Int) (i : Int) w) fun r => r.ex = .exit 0 ∧ ∃ B d, r.vals = [.slice B (h0 ++ bodyB xs).length d] ∧ Own .u8 5 r.w w0.heap.size (.slice B (h0 ++ bodyB xs).length d) (h0 ++ bodyB xs) ∧ Kp w0 r.w := by
  obtain ⟨t, hT⟩ := slB
  have hxl := hs.len
  intro q
  induction q with
  | zero =>
    intro i j B d w hi hj hk ho
    obtain ⟨j, rfl⟩ : ∃ j', j = j' + 1 := ⟨j - 1, by omega⟩
    rw [List.take_of_length_le (by omega)] at ho ⊢
    rw [batch_Bytes.l0_succ]
    exact Rt.cDF (by omega) (Rt.some' ⟨rfl, B, d, rfl, ho, hk⟩)
  | succ q ih =>
    intro i j B d w hi hj hk ho
    obtain ⟨j, rfl⟩ : ∃ j', j = j' + 1 := ⟨j - 1, by omega⟩
    rw [batch_Bytes.l0_succ]
    refine Rt.cDT (by omega) (Rt.jb (Rt.ixO hs.sl (by omega) (by omega) fun x a k K kl kc V vl vc ex hv c0 c1 c2 => ?_))
    have hmem : x ∈ xs := List.mem_of_getElem? ex
    have ex' : xs[i]? = some x := by simpa using ex
    have hrx := hr x hmem
    unfold rightO at hrx
    have hkl := hv.key.len
    have hvl := hv.val.len
    have hkk := hv.kind
    have hbl := bodyB_len (l := xs.take i) fun o ho => hr o (List.mem_of_mem_take ho)
    have hbi : (xs.take i).length = i := by simp; omega
    have hel := enc_len10 (x := kl) (by omega)
    have hel' := enc_len10 (x := vl) (by omega)
    have hlen : (h0 ++ bodyB (xs.take i)).length ≤ 600000 := by rw [List.length_append]; omega
    have hnext : h0 ++ bodyB (xs.take (i + 1)) = (h0 ++ bodyB (xs.take i)) ++ encO x := by rw [bodyB_snoc ex', List.append_assoc]
    generalize hrow : h0 ++ bodyB (xs.take i) = row at ho hlen hnext ⊢
    (repeat (first | (with_reducible (first | refine Rt.fin ?_ | refine Rt.tL ?_ | refine Rt.tI ?_ | refine Rt.tB ?_ | refine Rt.tS ?_ | refine Rt.tP ?_ | refine Rt.tD ?_ | refine Rt.tM ?_ | refine Rt.tC ?_ | refine Rt.tN ?_ | refine Rt.tA ?_ | refine Rt.tG ?_ | refine Rt.tF ?_ | refine Rt.os ?_ | refine Rt.clS ?_ | refine Rt.jmN ?_ | refine Rt.jbN ?_ | refine Rt.jbE ?_)) | ((with_reducible (first | apply Rt.ld0 | apply Rt.ld1 | apply Rt.ld2 | apply Rt.ld3 | apply Rt.ld4 | apply Rt.ld5)); first | assumption | exact Lc.kp (by assumption) (by assumption)) | ((with_reducible apply Rt.ol); first | assumption | exact cell_kp (by assumption) (by assumption)) | ((with_reducible apply Rt.ckR); focus ((repeat (first | (with_reducible (first | refine Rt.fin ?_ | refine Rt.tL ?_ | refine Rt.tI ?_ | refine Rt.tB ?_ | refine Rt.tS ?_ | refine Rt.tP ?_ | refine Rt.tD ?_ | refine Rt.tM ?_ | refine Rt.tC ?_ | refine Rt.tN ?_ | refine Rt.tA ?_ | refine Rt.tG ?_ | refine Rt.tF ?_ | refine Rt.os ?_ | refine Rt.clS ?_ | refine Rt.jmN ?_ | refine Rt.jbN ?_ | refine Rt.jbE ?_)) | ((with_reducible (first | apply Rt.ld0 | apply Rt.ld1 | apply Rt.ld2 | apply Rt.ld3 | apply Rt.ld4 | apply Rt.ld5)); first | assumption | exact Lc.kp (by assumption) (by assumption)) | ((with_reducible apply Rt.ol); first | assumption | exact cell_kp (by assumption) (by assumption)))); exact Rt.some' rfl))))
    refine Rt.al3 fun w1 l1 k1 s1 => ?_
    (repeat (first | (with_reducible (first | refine Rt.fin ?_ | refine Rt.tL ?_ | refine Rt.tI ?_ | refine Rt.tB ?_ | refine Rt.tS ?_ | refine Rt.tP ?_ | refine Rt.tD ?_ | refine Rt.tM ?_ | refine Rt.tC ?_ | refine Rt.tN ?_ | refine Rt.tA ?_ | refine Rt.tG ?_ | refine Rt.tF ?_ | refine Rt.os ?_ | refine Rt.clS ?_ | refine Rt.jmN ?_ | refine Rt.jbN ?_ | refine Rt.jbE ?_)) | ((with_reducible (first | apply Rt.ld0 | apply Rt.ld1 | apply Rt.ld2 | apply Rt.ld3 | apply Rt.ld4 | apply Rt.ld5)); first | assumption | exact Lc.kp (by assumption) (by assumption)) | ((with_reducible apply Rt.ol); first | assumption | exact cell_kp (by assumption) (by assumption)) | ((with_reducible apply Rt.ckR); focus ((repeat (first | (with_reducible (first | refine Rt.fin ?_ | refine Rt.tL ?_ | refine Rt.tI ?_ | refine Rt.tB ?_ | refine Rt.tS ?_ | refine Rt.tP ?_ | refine Rt.tD ?_ | refine Rt.tM ?_ | refine Rt.tC ?_ | refine Rt.tN ?_ | refine Rt.tA ?_ | refine Rt.tG ?_ | refine Rt.tF ?_ | refine Rt.os ?_ | refine Rt.clS ?_ | refine Rt.jmN ?_ | refine Rt.jbN ?_ | refine Rt.jbE ?_)) | ((with_reducible (first | apply Rt.ld0 | apply Rt.ld1 | apply Rt.ld2 | apply Rt.ld3 | apply Rt.ld4 | apply Rt.ld5)); first | assumption | exact Lc.kp (by assumption) (by assumption)) | ((with_reducible apply Rt.ol); first | assumption | exact cell_kp (by assumption) (by assumption)))); exact Rt.some' rfl))))
    refine Rt.alo [_] 1 rfl rfl (by decide) fun w2 o2 k2 => ?_
    have k02 := (hk.tr k1).tr k2
    have k12 := k1.tr k2
    refine Rt.app hT (ho.kp k12) o2.sl.2 (fun h => by cases h) (by omega) k02.size fun D f w3 o3 hk3 g3 s3 => ?_
    have k03 := hk3 w0 k02 (Nat.le_refl _)
    have l3 := (l1.kp k2).gx (Gx.of_grown g3) fun h => by have := (ho.lt _ h).2; omega
    (repeat (first | (with_reducible (first | refine Rt.fin ?_ | refine Rt.tL ?_ | refine Rt.tI ?_ | refine Rt.tB ?_ | refine Rt.tS ?_ | refine Rt.tP ?_ | refine Rt.tD ?_ | refine Rt.tM ?_ | refine Rt.tC ?_ | refine Rt.tN ?_ | refine Rt.tA ?_ | refine Rt.tG ?_ | refine Rt.tF ?_ | refine Rt.os ?_ | refine Rt.clS ?_ | refine Rt.jmN ?_ | refine Rt.jbN ?_ | refine Rt.jbE ?_)) | ((with_reducible (first | apply Rt.ld0 | apply Rt.ld1 | apply Rt.ld2 | apply Rt.ld3 | apply Rt.ld4 | apply Rt.ld5)); first | assumption | exact Lc.kp (by assumption) (by assumption)) | ((with_reducible apply Rt.ol); first | assumption | exact cell_kp (by assumption) (by assumption)) | ((with_reducible apply Rt.ckR); focus ((repeat (first | (with_reducible (first | refine Rt.fin ?_ | refine Rt.tL ?_ | refine Rt.tI ?_ | refine Rt.tB ?_ | refine Rt.tS ?_ | refine Rt.tP ?_ | refine Rt.tD ?_ | refine Rt.tM ?_ | refine Rt.tC ?_ | refine Rt.tN ?_ | refine Rt.tA ?_ | refine Rt.tG ?_ | refine Rt.tF ?_ | refine Rt.os ?_ | refine Rt.clS ?_ | refine Rt.jmN ?_ | refine Rt.jbN ?_ | refine Rt.jbE ?_)) | ((with_reducible (first | apply Rt.ld0 | apply Rt.ld1 | apply Rt.ld2 | apply Rt.ld3 | apply Rt.ld4 | apply Rt.ld5)); first | assumption | exact Lc.kp (by assumption) (by assumption)) | ((with_reducible apply Rt.ol); first | assumption | exact cell_kp (by assumption) (by assumption)))); exact Rt.some' rfl))))
    have d3 : Kp w3 w3.drew := (Kp.rfl' w3).dr
    rw [u64_in (kl : Int) (by omega)]
    refine Rt.cO (PutO (o3.kp d3) (by omega) (by omega) (by omega)) fun D4 f4 w4 o4 k4 => ?_
    have k34 := d3.tr k4
    have k04 := k03.tr k34
    have l4 := l3.kp k34
    rw [Int.toNat_natCast] at o4
    rw [Int.toNat_natCast]
    (repeat (first | (with_reducible (first | refine Rt.fin ?_ | refine Rt.tL ?_ | refine Rt.tI ?_ | refine Rt.tB ?_ | refine Rt.tS ?_ | refine Rt.tP ?_ | refine Rt.tD ?_ | refine Rt.tM ?_ | refine Rt.tC ?_ | refine Rt.tN ?_ | refine Rt.tA ?_ | refine Rt.tG ?_ | refine Rt.tF ?_ | refine Rt.os ?_ | refine Rt.clS ?_ | refine Rt.jmN ?_ | refine Rt.jbN ?_ | refine Rt.jbE ?_)) | ((with_reducible (first | apply Rt.ld0 | apply Rt.ld1 | apply Rt.ld2 | apply Rt.ld3 | apply Rt.ld4 | apply Rt.ld5)); first | assumption | exact Lc.kp (by assumption) (by assumption)) | ((with_reducible apply Rt.ol); first | assumption | exact cell_kp (by assumption) (by assumption)) | ((with_reducible apply Rt.ckR); focus ((repeat (first | (with_reducible (first | refine Rt.fin ?_ | refine Rt.tL ?_ | refine Rt.tI ?_ | refine Rt.tB ?_ | refine Rt.tS ?_ | refine Rt.tP ?_ | refine Rt.tD ?_ | refine Rt.tM ?_ | refine Rt.tC ?_ | refine Rt.tN ?_ | refine Rt.tA ?_ | refine Rt.tG ?_ | refine Rt.tF ?_ | refine Rt.os ?_ | refine Rt.clS ?_ | refine Rt.jmN ?_ | refine Rt.jbN ?_ | refine Rt.jbE ?_)) | ((with_reducible (first | apply Rt.ld0 | apply Rt.ld1 | apply Rt.ld2 | apply Rt.ld3 | apply Rt.ld4 | apply Rt.ld5)); first | assumption | exact Lc.kp (by assumption) (by assumption)) | ((with_reducible apply Rt.ol); first | assumption | exact cell_kp (by assumption) (by assumption)))); exact Rt.some' rfl))))
    have hs1 := k02.size
    refine Rt.app hT o4 (hv.key.kp k04).sl hv.key.nil (by simp only [List.length_append, List.length_singleton]; omega) k4.size fun D5 f5 w5 o5 hk5 g5 s5 => ?_
    have k05 := hk5 w0 k04 (Nat.le_trans hs1 s3)
    have l5 := l4.gx (Gx.of_grown g5) fun h => by have := (o4.lt _ h).1; have := k12.size; have := k2.size; have : w3.drew.heap.size = w3.heap.size := rfl; omega
    have hl5 := o5.sl.1
    (repeat (first | (with_reducible (first | refine Rt.fin ?_ | refine Rt.tL ?_ | refine Rt.tI ?_ | refine Rt.tB ?_ | refine Rt.tS ?_ | refine Rt.tP ?_ | refine Rt.tD ?_ | refine Rt.tM ?_ | refine Rt.tC ?_ | refine Rt.tN ?_ | refine Rt.tA ?_ | refine Rt.tG ?_ | refine Rt.tF ?_ | refine Rt.os ?_ | refine Rt.clS ?_ | refine Rt.jmN ?_ | refine Rt.jbN ?_ | refine Rt.jbE ?_)) | ((with_reducible (first | apply Rt.ld0 | apply Rt.ld1 | apply Rt.ld2 | apply Rt.ld3 | apply Rt.ld4 | apply Rt.ld5)); first | assumption | exact Lc.kp (by assumption) (by assumption)) | ((with_reducible apply Rt.ol); first | assumption | exact cell_kp (by assumption) (by assumption)) | ((with_reducible apply Rt.ckR); focus ((repeat (first | (with_reducible (first | refine Rt.fin ?_ | refine Rt.tL ?_ | refine Rt.tI ?_ | refine Rt.tB ?_ | refine Rt.tS ?_ | refine Rt.tP ?_ | refine Rt.tD ?_ | refine Rt.tM ?_ | refine Rt.tC ?_ | refine Rt.tN ?_ | refine Rt.tA ?_ | refine Rt.tG ?_ | refine Rt.tF ?_ | refine Rt.os ?_ | refine Rt.clS ?_ | refine Rt.jmN ?_ | refine Rt.jbN ?_ | refine Rt.jbE ?_)) | ((with_reducible (first | apply Rt.ld0 | apply Rt.ld1 | apply Rt.ld2 | apply Rt.ld3 | apply Rt.ld4 | apply Rt.ld5)); first | assumption | exact Lc.kp (by assumption) (by assumption)) | ((with_reducible apply Rt.ol); first | assumption | exact cell_kp (by assumption) (by assumption)))); exact Rt.some' rfl))))
    refine Rt.cQ (fun hk1 => ?_) fun hk1 => ?_
    · have d5 : Kp w5 w5.drew := (Kp.rfl' w5).dr
      (repeat (first | (with_reducible (first | refine Rt.fin ?_ | refine Rt.tL ?_ | refine Rt.tI ?_ | refine Rt.tB ?_ | refine Rt.tS ?_ | refine Rt.tP ?_ | refine Rt.tD ?_ | refine Rt.tM ?_ | refine Rt.tC ?_ | refine Rt.tN ?_ | refine Rt.tA ?_ | refine Rt.tG ?_ | refine Rt.tF ?_ | refine Rt.os ?_ | refine Rt.clS ?_ | refine Rt.jmN ?_ | refine Rt.jbN ?_ | refine Rt.jbE ?_)) | ((with_reducible (first | apply Rt.ld0 | apply Rt.ld1 | apply Rt.ld2 | apply Rt.ld3 | apply Rt.ld4 | apply Rt.ld5)); first | assumption | exact Lc.kp (by assumption) (by assumption)) | ((with_reducible apply Rt.ol); first | assumption | exact cell_kp (by assumption) (by assumption)) | ((with_reducible apply Rt.ckR); focus ((repeat (first | (with_reducible (first | refine Rt.fin ?_ | refine Rt.tL ?_ | refine Rt.tI ?_ | refine Rt.tB ?_ | refine Rt.tS ?_ | refine Rt.tP ?_ | refine Rt.tD ?_ | refine Rt.tM ?_ | refine Rt.tC ?_ | refine Rt.tN ?_ | refine Rt.tA ?_ | refine Rt.tG ?_ | refine Rt.tF ?_ | refine Rt.os ?_ | refine Rt.clS ?_ | refine Rt.jmN ?_ | refine Rt.jbN ?_ | refine Rt.jbE ?_)) | ((with_reducible (first | apply Rt.ld0 | apply Rt.ld1 | apply Rt.ld2 | apply Rt.ld3 | apply Rt.ld4 | apply Rt.ld5)); first | assumption | exact Lc.kp (by assumption) (by assumption)) | ((with_reducible apply Rt.ol); first | assumption | exact cell_kp (by assumption) (by assumption)))); exact Rt.some' rfl))))
      rw [u64_in (vl : Int) (by omega)]
      refine Rt.cO (PutO (o5.kp d5) (by simp only [List.length_append, List.length_singleton]; omega) (by omega) (by omega)) fun D6 f6 w6 o6 k6 => ?_
      have k56 := d5.tr k6
      have k06 := k05.tr k56
      have l6 := l5.kp k56
      rw [Int.toNat_natCast] at o6
      rw [Int.toNat_natCast]
      (repeat (first | (with_reducible (first | refine Rt.fin ?_ | refine Rt.tL ?_ | refine Rt.tI ?_ | refine Rt.tB ?_ | refine Rt.tS ?_ | refine Rt.tP ?_ | refine Rt.tD ?_ | refine Rt.tM ?_ | refine Rt.tC ?_ | refine Rt.tN ?_ | refine Rt.tA ?_ | refine Rt.tG ?_ | refine Rt.tF ?_ | refine Rt.os ?_ | refine Rt.clS ?_ | refine Rt.jmN ?_ | refine Rt.jbN ?_ | refine Rt.jbE ?_)) | ((with_reducible (first | apply Rt.ld0 | apply Rt.ld1 | apply Rt.ld2 | apply Rt.ld3 | apply Rt.ld4 | apply Rt.ld5)); first | assumption | exact Lc.kp (by assumption) (by assumption)) | ((with_reducible apply Rt.ol); first | assumption | exact cell_kp (by assumption) (by assumption)) | ((with_reducible apply Rt.ckR); focus ((repeat (first | (with_reducible (first | refine Rt.fin ?_ | refine Rt.tL ?_ | refine Rt.tI ?_ | refine Rt.tB ?_ | refine Rt.tS ?_ | refine Rt.tP ?_ | refine Rt.tD ?_ | refine Rt.tM ?_ | refine Rt.tC ?_ | refine Rt.tN ?_ | refine Rt.tA ?_ | refine Rt.tG ?_ | refine Rt.tF ?_ | refine Rt.os ?_ | refine Rt.clS ?_ | refine Rt.jmN ?_ | refine Rt.jbN ?_ | refine Rt.jbE ?_)) | ((with_reducible (first | apply Rt.ld0 | apply Rt.ld1 | apply Rt.ld2 | apply Rt.ld3 | apply Rt.ld4 | apply Rt.ld5)); first | assumption | exact Lc.kp (by assumption) (by assumption)) | ((with_reducible apply Rt.ol); first | assumption | exact cell_kp (by assumption) (by assumption)))); exact Rt.some' rfl))))
      refine Rt.app hT o6 (hv.val.kp k06).sl hv.val.nil (by simp only [List.length_append, List.length_singleton]; omega) k6.size fun D7 f7 w7 o7 hk7 g7 s7 => ?_
      have k07 := hk7 w0 k06 (Nat.le_trans hs1 (Nat.le_trans s3 (Nat.le_trans k34.size s5)))
      have hl7 := o7.sl.1
      (repeat (first | (with_reducible (first | refine Rt.fin ?_ | refine Rt.tL ?_ | refine Rt.tI ?_ | refine Rt.tB ?_ | refine Rt.tS ?_ | refine Rt.tP ?_ | refine Rt.tD ?_ | refine Rt.tM ?_ | refine Rt.tC ?_ | refine Rt.tN ?_ | refine Rt.tA ?_ | refine Rt.tG ?_ | refine Rt.tF ?_ | refine Rt.os ?_ | refine Rt.clS ?_ | refine Rt.jmN ?_ | refine Rt.jbN ?_ | refine Rt.jbE ?_)) | ((with_reducible (first | apply Rt.ld0 | apply Rt.ld1 | apply Rt.ld2 | apply Rt.ld3 | apply Rt.ld4 | apply Rt.ld5)); first | assumption | exact Lc.kp (by assumption) (by assumption)) | ((with_reducible apply Rt.ol); first | assumption | exact cell_kp (by assumption) (by assumption)) | ((with_reducible apply Rt.ckR); focus ((repeat (first | (with_reducible (first | refine Rt.fin ?_ | refine Rt.tL ?_ | refine Rt.tI ?_ | refine Rt.tB ?_ | refine Rt.tS ?_ | refine Rt.tP ?_ | refine Rt.tD ?_ | refine Rt.tM ?_ | refine Rt.tC ?_ | refine Rt.tN ?_ | refine Rt.tA ?_ | refine Rt.tG ?_ | refine Rt.tF ?_ | refine Rt.os ?_ | refine Rt.clS ?_ | refine Rt.jmN ?_ | refine Rt.jbN ?_ | refine Rt.jbE ?_)) | ((with_reducible (first | apply Rt.ld0 | apply Rt.ld1 | apply Rt.ld2 | apply Rt.ld3 | apply Rt.ld4 | apply Rt.ld5)); first | assumption | exact Lc.kp (by assumption) (by assumption)) | ((with_reducible apply Rt.ol); first | assumption | exact cell_kp (by assumption) (by assumption)))); exact Rt.some' rfl))))
      refine Rt.some' (.inl ⟨.inl rfl, ?_⟩)
      (repeat (first | (with_reducible (first | refine Rt.fin ?_ | refine Rt.tL ?_ | refine Rt.tI ?_ | refine Rt.tB ?_ | refine Rt.tS ?_ | refine Rt.tP ?_ | refine Rt.tD ?_ | refine Rt.tM ?_ | refine Rt.tC ?_ | refine Rt.tN ?_ | refine Rt.tA ?_ | refine Rt.tG ?_ | refine Rt.tF ?_ | refine Rt.os ?_ | refine Rt.clS ?_ | refine Rt.jmN ?_ | refine Rt.jbN ?_ | refine Rt.jbE ?_)) | ((with_reducible (first | apply Rt.ld0 | apply Rt.ld1 | apply Rt.ld2 | apply Rt.ld3 | apply Rt.ld4 | apply Rt.ld5)); first | assumption | exact Lc.kp (by assumption) (by assumption)) | ((with_reducible apply Rt.ol); first | assumption | exact cell_kp (by assumption) (by assumption)) | ((with_reducible apply Rt.ckR); focus ((repeat (first | (with_reducible (first | refine Rt.fin ?_ | refine Rt.tL ?_ | refine Rt.tI ?_ | refine Rt.tB ?_ | refine Rt.tS ?_ | refine Rt.tP ?_ | refine Rt.tD ?_ | refine Rt.tM ?_ | refine Rt.tC ?_ | refine Rt.tN ?_ | refine Rt.tA ?_ | refine Rt.tG ?_ | refine Rt.tF ?_ | refine Rt.os ?_ | refine Rt.clS ?_ | refine Rt.jmN ?_ | refine Rt.jbN ?_ | refine Rt.jbE ?_)) | ((with_reducible (first | apply Rt.ld0 | apply Rt.ld1 | apply Rt.ld2 | apply Rt.ld3 | apply Rt.ld4 | apply Rt.ld5)); first | assumption | exact Lc.kp (by assumption) (by assumption)) | ((with_reducible apply Rt.ol); first | assumption | exact cell_kp (by assumption) (by assumption)))); exact Rt.some' rfl))))
      have e : row ++ [IntKind.u8.wrap k] ++ enc kl ++ x.key ++ enc vl ++ x.val = h0 ++ bodyB (xs.take (i + 1)) := by
        rw [hnext, u8w, hkk]
        unfold encO
        rw [if_pos (by omega), hkl, hvl]
        simp only [List.append_assoc]
      rw [hl7, e]
      rw [hl7, e] at o7
      rw [i64_in _ (by omega), show ((i : Int) + 1) = ((i + 1 : Nat) : Int) by omega]
      exact ih (i + 1) j D7 f7 w7 (by omega) (by omega) k07 (o7.mono (Nat.le_trans hs1 (Nat.le_trans s3 (Nat.le_trans k34.size s5))))
    · refine Rt.some' (.inl ⟨.inl rfl, ?_⟩)
      (repeat (first | (with_reducible (first | refine Rt.fin ?_ | refine Rt.tL ?_ | refine Rt.tI ?_ | refine Rt.tB ?_ | refine Rt.tS ?_ | refine Rt.tP ?_ | refine Rt.tD ?_ | refine Rt.tM ?_ | refine Rt.tC ?_ | refine Rt.tN ?_ | refine Rt.tA ?_ | refine Rt.tG ?_ | refine Rt.tF ?_ | refine Rt.os ?_ | refine Rt.clS ?_ | refine Rt.jmN ?_ | refine Rt.jbN ?_ | refine Rt.jbE ?_)) | ((with_reducible (first | apply Rt.ld0 | apply Rt.ld1 | apply Rt.ld2 | apply Rt.ld3 | apply Rt.ld4 | apply Rt.ld5)); first | assumption | exact Lc.kp (by assumption) (by assumption)) | ((with_reducible apply Rt.ol); first | assumption | exact cell_kp (by assumption) (by assumption)) | ((with_reducible apply Rt.ckR); focus ((repeat (first | (with_reducible (first | refine Rt.fin ?_ | refine Rt.tL ?_ | refine Rt.tI ?_ | refine Rt.tB ?_ | refine Rt.tS ?_ | refine Rt.tP ?_ | refine Rt.tD ?_ | refine Rt.tM ?_ | refine Rt.tC ?_ | refine Rt.tN ?_ | refine Rt.tA ?_ | refine Rt.tG ?_ | refine Rt.tF ?_ | refine Rt.os ?_ | refine Rt.clS ?_ | refine Rt.jmN ?_ | refine Rt.jbN ?_ | refine Rt.jbE ?_)) | ((with_reducible (first | apply Rt.ld0 | apply Rt.ld1 | apply Rt.ld2 | apply Rt.ld3 | apply Rt.ld4 | apply Rt.ld5)); first | assumption | exact Lc.kp (by assumption) (by assumption)) | ((with_reducible apply Rt.ol); first | assumption | exact cell_kp (by assumption) (by assumption)))); exact Rt.some' rfl))))
      have e : row ++ [IntKind.u8.wrap k] ++ enc kl ++ x.key = h0 ++ bodyB (xs.take (i + 1)) := by
        rw [hnext, u8w, hkk]
        unfold encO
        rw [if_neg (by omega), hkl]
        simp only [List.append_assoc, List.append_nil]
      rw [hl5, e]
      rw [hl5, e] at o5
      rw [i64_in _ (by omega), show ((i : Int) + 1) = ((i + 1 : Nat) : Int) by omega]
      exact ih (i + 1) j D5 f5 w5 (by omega) (by omega) k05 (o5.mono (Nat.le_trans hs1 s3))
end
end Go.Proofs.YtdcdgmiojlldaaaDoor.Ba
/- Batches: the writings, whole; the document's own; when two are one. -/
namespace Go.Proofs.YtdcdgmiojlldaaaDoor.Ba
open Go Big Go.RowKit Go.IntWalk Var Low Par
set_option linter.unusedVariables false
set_option linter.unusedSimpArgs false
section
variable {α : Type} {Q : α → Prop} {n : Nat} {w w0 : World} {A B C : Option Addr} {l c m d : Nat} {k : Int} {x : OpD} {xs ys : List OpD} {bs : List Int}
theorem Rt.cOb {β : Type} {Q : β → Prop} {z : Option (List Value × World)} {base : Nat} {bs : List Int} (h : Rt z fun r => ∃ B d w', r = ([.slice B bs.length d], w') ∧ Own .u8 5 w' base (.slice B bs.length d) bs ∧ Kp w0 w') {f : Option Addr → Nat → Nat → World → Option β}
    (hf : ∀ B d w1, Own .u8 5 w1 base (.slice B bs.length d) bs → Kp w0 w1 → Rt (f B bs.length d w1) Q) : Rt (cl z fun vs w => tC vs fun u cs => tL u fun A l c => tN cs (f A l c w)) Q := by
  obtain ⟨_, rfl, B, d, w1, rfl, o, k1⟩ := h
  exact hf B d w1 o k1
theorem RBytes_l0 {b base : Nat} {s : Value} (hbb : b < base) (hb0 : w0.heap.size ≤ base) (hs : Ev opEl w0 A l c xs) (hr : ∀ o ∈ xs, rightO o) (hl : l ≤ 100) {h0 : List Int} (hh : h0.length ≤ 100) (hn : 200 < n) : ∀ (q i j : Nat) (B : Option Addr) (d : Nat) (w : World), i + q = l → q < j → Kp w0 w → Lc w b [s, .slice A l c] → base ≤ w.heap.size → Own .u8 5 w base (.slice B (h0 ++ bodyB (xs.take i)).length d) (h0 ++ bodyB (xs.take i)) →
    Rt (butteryref1_BatchBytes.l0 n j ⟨b, 0, none⟩ B (h0 ++ bodyB (xs.take i)).length d (i : Int) w) fun r => r.ex = .exit 0 ∧ ∃ B d, r.vals = [.slice B (h0 ++ bodyB xs).length d] ∧ Own .u8 5 r.w base (.slice B (h0 ++ bodyB xs).length d) (h0 ++ bodyB xs) ∧ Kp w0 r.w := by
  obtain ⟨t, hT⟩ := slB
  have hxl := hs.len
  intro q
  induction q with
  | zero =>
    intro i j B d w hi hj hk hlc hbs ho
    obtain ⟨j, rfl⟩ : ∃ j', j = j' + 1 := ⟨j - 1, by omega⟩
    rw [List.take_of_length_le (by omega)] at ho ⊢
    rw [butteryref1_BatchBytes.l0_succ]
    refine Rt.ol hlc.ld1 (Rt.tL ?_)
    exact Rt.cDF (by omega) (Rt.some' ⟨rfl, B, d, rfl, ho, hk⟩)
  | succ q ih =>
    intro i j B d w hi hj hk hlc hbs ho
    obtain ⟨j, rfl⟩ : ∃ j', j = j' + 1 := ⟨j - 1, by omega⟩
    rw [butteryref1_BatchBytes.l0_succ]
    refine Rt.ol hlc.ld1 (Rt.tL ?_)
    refine Rt.cDT (by omega) (Rt.jb (Rt.ol hlc.ld1 (Rt.tL ?_)))
    refine (Rt.ixO hs.sl (by omega) (by omega) fun x a k K kl kc V vl vc ex hv c0 c1 c2 => ?_)
    have hmem : x ∈ xs := List.mem_of_getElem? ex
    have ex' : xs[i]? = some x := by simpa using ex
    have hrx := hr x hmem
    unfold rightO at hrx
    have hkl := hv.key.len
    have hvl := hv.val.len
    have hkk := hv.kind
    have hbl := bodyB_len (l := xs.take i) fun o ho => hr o (List.mem_of_mem_take ho)
    have hbi : (xs.take i).length = i := by simp; omega
    have hel := enc_len10 (x := kl) (by omega)
    have hel' := enc_len10 (x := vl) (by omega)
    have hlen : (h0 ++ bodyB (xs.take i)).length ≤ 600000 := by rw [List.length_append]; omega
    have hnext : h0 ++ bodyB (xs.take (i + 1)) = (h0 ++ bodyB (xs.take i)) ++ encO x := by rw [bodyB_snoc ex', List.append_assoc]
    generalize hrow : h0 ++ bodyB (xs.take i) = row at ho hlen hnext ⊢
    (repeat (first | (with_reducible (first | refine Rt.fin ?_ | refine Rt.tL ?_ | refine Rt.tI ?_ | refine Rt.tB ?_ | refine Rt.tS ?_ | refine Rt.tP ?_ | refine Rt.tD ?_ | refine Rt.tM ?_ | refine Rt.tC ?_ | refine Rt.tN ?_ | refine Rt.tA ?_ | refine Rt.tG ?_ | refine Rt.tF ?_ | refine Rt.os ?_ | refine Rt.clS ?_ | refine Rt.jmN ?_ | refine Rt.jbN ?_ | refine Rt.jbE ?_)) | ((with_reducible (first | apply Rt.ld0 | apply Rt.ld1 | apply Rt.ld2 | apply Rt.ld3 | apply Rt.ld4 | apply Rt.ld5)); first | assumption | exact Lc.kp (by assumption) (by assumption)) | ((with_reducible apply Rt.ol); first | assumption | exact cell_kp (by assumption) (by assumption)) | ((with_reducible apply Rt.ckR); focus ((repeat (first | (with_reducible (first | refine Rt.fin ?_ | refine Rt.tL ?_ | refine Rt.tI ?_ | refine Rt.tB ?_ | refine Rt.tS ?_ | refine Rt.tP ?_ | refine Rt.tD ?_ | refine Rt.tM ?_ | refine Rt.tC ?_ | refine Rt.tN ?_ | refine Rt.tA ?_ | refine Rt.tG ?_ | refine Rt.tF ?_ | refine Rt.os ?_ | refine Rt.clS ?_ | refine Rt.jmN ?_ | refine Rt.jbN ?_ | refine Rt.jbE ?_)) | ((with_reducible (first | apply Rt.ld0 | apply Rt.ld1 | apply Rt.ld2 | apply Rt.ld3 | apply Rt.ld4 | apply Rt.ld5)); first | assumption | exact Lc.kp (by assumption) (by assumption)) | ((with_reducible apply Rt.ol); first | assumption | exact cell_kp (by assumption) (by assumption)))); exact Rt.some' rfl))))
    refine Rt.al3 fun w1 l1 k1 s1 => ?_
    (repeat (first | (with_reducible (first | refine Rt.fin ?_ | refine Rt.tL ?_ | refine Rt.tI ?_ | refine Rt.tB ?_ | refine Rt.tS ?_ | refine Rt.tP ?_ | refine Rt.tD ?_ | refine Rt.tM ?_ | refine Rt.tC ?_ | refine Rt.tN ?_ | refine Rt.tA ?_ | refine Rt.tG ?_ | refine Rt.tF ?_ | refine Rt.os ?_ | refine Rt.clS ?_ | refine Rt.jmN ?_ | refine Rt.jbN ?_ | refine Rt.jbE ?_)) | ((with_reducible (first | apply Rt.ld0 | apply Rt.ld1 | apply Rt.ld2 | apply Rt.ld3 | apply Rt.ld4 | apply Rt.ld5)); first | assumption | exact Lc.kp (by assumption) (by assumption)) | ((with_reducible apply Rt.ol); first | assumption | exact cell_kp (by assumption) (by assumption)) | ((with_reducible apply Rt.ckR); focus ((repeat (first | (with_reducible (first | refine Rt.fin ?_ | refine Rt.tL ?_ | refine Rt.tI ?_ | refine Rt.tB ?_ | refine Rt.tS ?_ | refine Rt.tP ?_ | refine Rt.tD ?_ | refine Rt.tM ?_ | refine Rt.tC ?_ | refine Rt.tN ?_ | refine Rt.tA ?_ | refine Rt.tG ?_ | refine Rt.tF ?_ | refine Rt.os ?_ | refine Rt.clS ?_ | refine Rt.jmN ?_ | refine Rt.jbN ?_ | refine Rt.jbE ?_)) | ((with_reducible (first | apply Rt.ld0 | apply Rt.ld1 | apply Rt.ld2 | apply Rt.ld3 | apply Rt.ld4 | apply Rt.ld5)); first | assumption | exact Lc.kp (by assumption) (by assumption)) | ((with_reducible apply Rt.ol); first | assumption | exact cell_kp (by assumption) (by assumption)))); exact Rt.some' rfl))))
    refine Rt.alo [_] 1 rfl rfl (by decide) fun w2 o2 k2 => ?_
    have k02 := (hk.tr k1).tr k2
    have k12 := k1.tr k2
    have hbs2 := Nat.le_trans hbs k12.size
    have lb2 := hlc.kp k12
    refine Rt.app hT (ho.kp k12) o2.sl.2 (fun h => by cases h) (by omega) hbs2 fun D f w3 o3 hk3 g3 s3 => ?_
    have k03 := hk3 w0 k02 hb0
    have lb3 := lb2.gx (Gx.of_grown g3) fun h => by have := (ho.lt _ h).1; omega
    have l3 := (l1.kp k2).gx (Gx.of_grown g3) fun h => by have := (ho.lt _ h).2; omega
    (repeat (first | (with_reducible (first | refine Rt.fin ?_ | refine Rt.tL ?_ | refine Rt.tI ?_ | refine Rt.tB ?_ | refine Rt.tS ?_ | refine Rt.tP ?_ | refine Rt.tD ?_ | refine Rt.tM ?_ | refine Rt.tC ?_ | refine Rt.tN ?_ | refine Rt.tA ?_ | refine Rt.tG ?_ | refine Rt.tF ?_ | refine Rt.os ?_ | refine Rt.clS ?_ | refine Rt.jmN ?_ | refine Rt.jbN ?_ | refine Rt.jbE ?_)) | ((with_reducible (first | apply Rt.ld0 | apply Rt.ld1 | apply Rt.ld2 | apply Rt.ld3 | apply Rt.ld4 | apply Rt.ld5)); first | assumption | exact Lc.kp (by assumption) (by assumption)) | ((with_reducible apply Rt.ol); first | assumption | exact cell_kp (by assumption) (by assumption)) | ((with_reducible apply Rt.ckR); focus ((repeat (first | (with_reducible (first | refine Rt.fin ?_ | refine Rt.tL ?_ | refine Rt.tI ?_ | refine Rt.tB ?_ | refine Rt.tS ?_ | refine Rt.tP ?_ | refine Rt.tD ?_ | refine Rt.tM ?_ | refine Rt.tC ?_ | refine Rt.tN ?_ | refine Rt.tA ?_ | refine Rt.tG ?_ | refine Rt.tF ?_ | refine Rt.os ?_ | refine Rt.clS ?_ | refine Rt.jmN ?_ | refine Rt.jbN ?_ | refine Rt.jbE ?_)) | ((with_reducible (first | apply Rt.ld0 | apply Rt.ld1 | apply Rt.ld2 | apply Rt.ld3 | apply Rt.ld4 | apply Rt.ld5)); first | assumption | exact Lc.kp (by assumption) (by assumption)) | ((with_reducible apply Rt.ol); first | assumption | exact cell_kp (by assumption) (by assumption)))); exact Rt.some' rfl))))
    have d3 : Kp w3 w3.drew := (Kp.rfl' w3).dr
    rw [u64_in (kl : Int) (by omega)]
    refine Rt.cO (RPutO (o3.kp d3) (by omega) (by omega) (by omega)) fun D4 f4 w4 o4 k4 => ?_
    have k34 := d3.tr k4
    have k04 := k03.tr k34
    have l4 := l3.kp k34
    have lb4 := lb3.kp k34
    have hb3 := Nat.le_trans hbs2 s3
    rw [Int.toNat_natCast] at o4
    rw [Int.toNat_natCast]
    (repeat (first | (with_reducible (first | refine Rt.fin ?_ | refine Rt.tL ?_ | refine Rt.tI ?_ | refine Rt.tB ?_ | refine Rt.tS ?_ | refine Rt.tP ?_ | refine Rt.tD ?_ | refine Rt.tM ?_ | refine Rt.tC ?_ | refine Rt.tN ?_ | refine Rt.tA ?_ | refine Rt.tG ?_ | refine Rt.tF ?_ | refine Rt.os ?_ | refine Rt.clS ?_ | refine Rt.jmN ?_ | refine Rt.jbN ?_ | refine Rt.jbE ?_)) | ((with_reducible (first | apply Rt.ld0 | apply Rt.ld1 | apply Rt.ld2 | apply Rt.ld3 | apply Rt.ld4 | apply Rt.ld5)); first | assumption | exact Lc.kp (by assumption) (by assumption)) | ((with_reducible apply Rt.ol); first | assumption | exact cell_kp (by assumption) (by assumption)) | ((with_reducible apply Rt.ckR); focus ((repeat (first | (with_reducible (first | refine Rt.fin ?_ | refine Rt.tL ?_ | refine Rt.tI ?_ | refine Rt.tB ?_ | refine Rt.tS ?_ | refine Rt.tP ?_ | refine Rt.tD ?_ | refine Rt.tM ?_ | refine Rt.tC ?_ | refine Rt.tN ?_ | refine Rt.tA ?_ | refine Rt.tG ?_ | refine Rt.tF ?_ | refine Rt.os ?_ | refine Rt.clS ?_ | refine Rt.jmN ?_ | refine Rt.jbN ?_ | refine Rt.jbE ?_)) | ((with_reducible (first | apply Rt.ld0 | apply Rt.ld1 | apply Rt.ld2 | apply Rt.ld3 | apply Rt.ld4 | apply Rt.ld5)); first | assumption | exact Lc.kp (by assumption) (by assumption)) | ((with_reducible apply Rt.ol); first | assumption | exact cell_kp (by assumption) (by assumption)))); exact Rt.some' rfl))))
    have hs1 := k02.size
    refine Rt.app hT o4 (hv.key.kp k04).sl hv.key.nil (by simp only [List.length_append, List.length_singleton]; omega) k4.size fun D5 f5 w5 o5 hk5 g5 s5 => ?_
    have k05 := hk5 w0 k04 (Nat.le_trans hs1 s3)
    have l5 := l4.gx (Gx.of_grown g5) fun h => by have := (o4.lt _ h).1; have := k12.size; have := k2.size; have : w3.drew.heap.size = w3.heap.size := rfl; omega
    have hl5 := o5.sl.1
    have lb5 := lb4.gx (Gx.of_grown g5) fun h => by have := (o4.lt _ h).1; have : w3.drew.heap.size = w3.heap.size := rfl; omega
    (repeat (first | (with_reducible (first | refine Rt.fin ?_ | refine Rt.tL ?_ | refine Rt.tI ?_ | refine Rt.tB ?_ | refine Rt.tS ?_ | refine Rt.tP ?_ | refine Rt.tD ?_ | refine Rt.tM ?_ | refine Rt.tC ?_ | refine Rt.tN ?_ | refine Rt.tA ?_ | refine Rt.tG ?_ | refine Rt.tF ?_ | refine Rt.os ?_ | refine Rt.clS ?_ | refine Rt.jmN ?_ | refine Rt.jbN ?_ | refine Rt.jbE ?_)) | ((with_reducible (first | apply Rt.ld0 | apply Rt.ld1 | apply Rt.ld2 | apply Rt.ld3 | apply Rt.ld4 | apply Rt.ld5)); first | assumption | exact Lc.kp (by assumption) (by assumption)) | ((with_reducible apply Rt.ol); first | assumption | exact cell_kp (by assumption) (by assumption)) | ((with_reducible apply Rt.ckR); focus ((repeat (first | (with_reducible (first | refine Rt.fin ?_ | refine Rt.tL ?_ | refine Rt.tI ?_ | refine Rt.tB ?_ | refine Rt.tS ?_ | refine Rt.tP ?_ | refine Rt.tD ?_ | refine Rt.tM ?_ | refine Rt.tC ?_ | refine Rt.tN ?_ | refine Rt.tA ?_ | refine Rt.tG ?_ | refine Rt.tF ?_ | refine Rt.os ?_ | refine Rt.clS ?_ | refine Rt.jmN ?_ | refine Rt.jbN ?_ | refine Rt.jbE ?_)) | ((with_reducible (first | apply Rt.ld0 | apply Rt.ld1 | apply Rt.ld2 | apply Rt.ld3 | apply Rt.ld4 | apply Rt.ld5)); first | assumption | exact Lc.kp (by assumption) (by assumption)) | ((with_reducible apply Rt.ol); first | assumption | exact cell_kp (by assumption) (by assumption)))); exact Rt.some' rfl))))
    refine Rt.cQ (fun hk1 => ?_) fun hk1 => ?_
    · have d5 : Kp w5 w5.drew := (Kp.rfl' w5).dr
      (repeat (first | (with_reducible (first | refine Rt.fin ?_ | refine Rt.tL ?_ | refine Rt.tI ?_ | refine Rt.tB ?_ | refine Rt.tS ?_ | refine Rt.tP ?_ | refine Rt.tD ?_ | refine Rt.tM ?_ | refine Rt.tC ?_ | refine Rt.tN ?_ | refine Rt.tA ?_ | refine Rt.tG ?_ | refine Rt.tF ?_ | refine Rt.os ?_ | refine Rt.clS ?_ | refine Rt.jmN ?_ | refine Rt.jbN ?_ | refine Rt.jbE ?_)) | ((with_reducible (first | apply Rt.ld0 | apply Rt.ld1 | apply Rt.ld2 | apply Rt.ld3 | apply Rt.ld4 | apply Rt.ld5)); first | assumption | exact Lc.kp (by assumption) (by assumption)) | ((with_reducible apply Rt.ol); first | assumption | exact cell_kp (by assumption) (by assumption)) | ((with_reducible apply Rt.ckR); focus ((repeat (first | (with_reducible (first | refine Rt.fin ?_ | refine Rt.tL ?_ | refine Rt.tI ?_ | refine Rt.tB ?_ | refine Rt.tS ?_ | refine Rt.tP ?_ | refine Rt.tD ?_ | refine Rt.tM ?_ | refine Rt.tC ?_ | refine Rt.tN ?_ | refine Rt.tA ?_ | refine Rt.tG ?_ | refine Rt.tF ?_ | refine Rt.os ?_ | refine Rt.clS ?_ | refine Rt.jmN ?_ | refine Rt.jbN ?_ | refine Rt.jbE ?_)) | ((with_reducible (first | apply Rt.ld0 | apply Rt.ld1 | apply Rt.ld2 | apply Rt.ld3 | apply Rt.ld4 | apply Rt.ld5)); first | assumption | exact Lc.kp (by assumption) (by assumption)) | ((with_reducible apply Rt.ol); first | assumption | exact cell_kp (by assumption) (by assumption)))); exact Rt.some' rfl))))
      rw [u64_in (vl : Int) (by omega)]
      refine Rt.cO (RPutO (o5.kp d5) (by simp only [List.length_append, List.length_singleton]; omega) (by omega) (by omega)) fun D6 f6 w6 o6 k6 => ?_
      have k56 := d5.tr k6
      have k06 := k05.tr k56
      have l6 := l5.kp k56
      have lb6 := lb5.kp k56
      rw [Int.toNat_natCast] at o6
      rw [Int.toNat_natCast]
      (repeat (first | (with_reducible (first | refine Rt.fin ?_ | refine Rt.tL ?_ | refine Rt.tI ?_ | refine Rt.tB ?_ | refine Rt.tS ?_ | refine Rt.tP ?_ | refine Rt.tD ?_ | refine Rt.tM ?_ | refine Rt.tC ?_ | refine Rt.tN ?_ | refine Rt.tA ?_ | refine Rt.tG ?_ | refine Rt.tF ?_ | refine Rt.os ?_ | refine Rt.clS ?_ | refine Rt.jmN ?_ | refine Rt.jbN ?_ | refine Rt.jbE ?_)) | ((with_reducible (first | apply Rt.ld0 | apply Rt.ld1 | apply Rt.ld2 | apply Rt.ld3 | apply Rt.ld4 | apply Rt.ld5)); first | assumption | exact Lc.kp (by assumption) (by assumption)) | ((with_reducible apply Rt.ol); first | assumption | exact cell_kp (by assumption) (by assumption)) | ((with_reducible apply Rt.ckR); focus ((repeat (first | (with_reducible (first | refine Rt.fin ?_ | refine Rt.tL ?_ | refine Rt.tI ?_ | refine Rt.tB ?_ | refine Rt.tS ?_ | refine Rt.tP ?_ | refine Rt.tD ?_ | refine Rt.tM ?_ | refine Rt.tC ?_ | refine Rt.tN ?_ | refine Rt.tA ?_ | refine Rt.tG ?_ | refine Rt.tF ?_ | refine Rt.os ?_ | refine Rt.clS ?_ | refine Rt.jmN ?_ | refine Rt.jbN ?_ | refine Rt.jbE ?_)) | ((with_reducible (first | apply Rt.ld0 | apply Rt.ld1 | apply Rt.ld2 | apply Rt.ld3 | apply Rt.ld4 | apply Rt.ld5)); first | assumption | exact Lc.kp (by assumption) (by assumption)) | ((with_reducible apply Rt.ol); first | assumption | exact cell_kp (by assumption) (by assumption)))); exact Rt.some' rfl))))
      refine Rt.app hT o6 (hv.val.kp k06).sl hv.val.nil (by simp only [List.length_append, List.length_singleton]; omega) k6.size fun D7 f7 w7 o7 hk7 g7 s7 => ?_
      have k07 := hk7 w0 k06 (Nat.le_trans hs1 (Nat.le_trans s3 (Nat.le_trans k34.size s5)))
      have hl7 := o7.sl.1
      have lb7 := lb6.gx (Gx.of_grown g7) fun h => by have := (o6.lt _ h).1; have := k34.size; have : w5.drew.heap.size = w5.heap.size := rfl; omega
      (repeat (first | (with_reducible (first | refine Rt.fin ?_ | refine Rt.tL ?_ | refine Rt.tI ?_ | refine Rt.tB ?_ | refine Rt.tS ?_ | refine Rt.tP ?_ | refine Rt.tD ?_ | refine Rt.tM ?_ | refine Rt.tC ?_ | refine Rt.tN ?_ | refine Rt.tA ?_ | refine Rt.tG ?_ | refine Rt.tF ?_ | refine Rt.os ?_ | refine Rt.clS ?_ | refine Rt.jmN ?_ | refine Rt.jbN ?_ | refine Rt.jbE ?_)) | ((with_reducible (first | apply Rt.ld0 | apply Rt.ld1 | apply Rt.ld2 | apply Rt.ld3 | apply Rt.ld4 | apply Rt.ld5)); first | assumption | exact Lc.kp (by assumption) (by assumption)) | ((with_reducible apply Rt.ol); first | assumption | exact cell_kp (by assumption) (by assumption)) | ((with_reducible apply Rt.ckR); focus ((repeat (first | (with_reducible (first | refine Rt.fin ?_ | refine Rt.tL ?_ | refine Rt.tI ?_ | refine Rt.tB ?_ | refine Rt.tS ?_ | refine Rt.tP ?_ | refine Rt.tD ?_ | refine Rt.tM ?_ | refine Rt.tC ?_ | refine Rt.tN ?_ | refine Rt.tA ?_ | refine Rt.tG ?_ | refine Rt.tF ?_ | refine Rt.os ?_ | refine Rt.clS ?_ | refine Rt.jmN ?_ | refine Rt.jbN ?_ | refine Rt.jbE ?_)) | ((with_reducible (first | apply Rt.ld0 | apply Rt.ld1 | apply Rt.ld2 | apply Rt.ld3 | apply Rt.ld4 | apply Rt.ld5)); first | assumption | exact Lc.kp (by assumption) (by assumption)) | ((with_reducible apply Rt.ol); first | assumption | exact cell_kp (by assumption) (by assumption)))); exact Rt.some' rfl))))
      refine Rt.some' (.inl ⟨.inl rfl, ?_⟩)
      (repeat (first | (with_reducible (first | refine Rt.fin ?_ | refine Rt.tL ?_ | refine Rt.tI ?_ | refine Rt.tB ?_ | refine Rt.tS ?_ | refine Rt.tP ?_ | refine Rt.tD ?_ | refine Rt.tM ?_ | refine Rt.tC ?_ | refine Rt.tN ?_ | refine Rt.tA ?_ | refine Rt.tG ?_ | refine Rt.tF ?_ | refine Rt.os ?_ | refine Rt.clS ?_ | refine Rt.jmN ?_ | refine Rt.jbN ?_ | refine Rt.jbE ?_)) | ((with_reducible (first | apply Rt.ld0 | apply Rt.ld1 | apply Rt.ld2 | apply Rt.ld3 | apply Rt.ld4 | apply Rt.ld5)); first | assumption | exact Lc.kp (by assumption) (by assumption)) | ((with_reducible apply Rt.ol); first | assumption | exact cell_kp (by assumption) (by assumption)) | ((with_reducible apply Rt.ckR); focus ((repeat (first | (with_reducible (first | refine Rt.fin ?_ | refine Rt.tL ?_ | refine Rt.tI ?_ | refine Rt.tB ?_ | refine Rt.tS ?_ | refine Rt.tP ?_ | refine Rt.tD ?_ | refine Rt.tM ?_ | refine Rt.tC ?_ | refine Rt.tN ?_ | refine Rt.tA ?_ | refine Rt.tG ?_ | refine Rt.tF ?_ | refine Rt.os ?_ | refine Rt.clS ?_ | refine Rt.jmN ?_ | refine Rt.jbN ?_ | refine Rt.jbE ?_)) | ((with_reducible (first | apply Rt.ld0 | apply Rt.ld1 | apply Rt.ld2 | apply Rt.ld3 | apply Rt.ld4 | apply Rt.ld5)); first | assumption | exact Lc.kp (by assumption) (by assumption)) | ((with_reducible apply Rt.ol); first | assumption | exact cell_kp (by assumption) (by assumption)))); exact Rt.some' rfl))))
      have e : row ++ [IntKind.u8.wrap k] ++ enc kl ++ x.key ++ enc vl ++ x.val = h0 ++ bodyB (xs.take (i + 1)) := by
        rw [hnext, u8w, hkk]
        unfold encO
        rw [if_pos (by omega), hkl, hvl]
        simp only [List.append_assoc]
      rw [hl7, e]
      rw [hl7, e] at o7
      rw [i64_in _ (by omega), show ((i : Int) + 1) = ((i + 1 : Nat) : Int) by omega]
      exact ih (i + 1) j D7 f7 w7 (by omega) (by omega) k07 lb7 (Nat.le_trans hb3 (Nat.le_trans k34.size (Nat.le_trans s5 (Nat.le_trans k56.size s7)))) (o7.mono (Nat.le_trans hb3 (Nat.le_trans k34.size s5)))
    · refine Rt.some' (.inl ⟨.inl rfl, ?_⟩)
      (repeat (first | (with_reducible (first | refine Rt.fin ?_ | refine Rt.tL ?_ | refine Rt.tI ?_ | refine Rt.tB ?_ | refine Rt.tS ?_ | refine Rt.tP ?_ | refine Rt.tD ?_ | refine Rt.tM ?_ | refine Rt.tC ?_ | refine Rt.tN ?_ | refine Rt.tA ?_ | refine Rt.tG ?_ | refine Rt.tF ?_ | refine Rt.os ?_ | refine Rt.clS ?_ | refine Rt.jmN ?_ | refine Rt.jbN ?_ | refine Rt.jbE ?_)) | ((with_reducible (first | apply Rt.ld0 | apply Rt.ld1 | apply Rt.ld2 | apply Rt.ld3 | apply Rt.ld4 | apply Rt.ld5)); first | assumption | exact Lc.kp (by assumption) (by assumption)) | ((with_reducible apply Rt.ol); first | assumption | exact cell_kp (by assumption) (by assumption)) | ((with_reducible apply Rt.ckR); focus ((repeat (first | (with_reducible (first | refine Rt.fin ?_ | refine Rt.tL ?_ | refine Rt.tI ?_ | refine Rt.tB ?_ | refine Rt.tS ?_ | refine Rt.tP ?_ | refine Rt.tD ?_ | refine Rt.tM ?_ | refine Rt.tC ?_ | refine Rt.tN ?_ | refine Rt.tA ?_ | refine Rt.tG ?_ | refine Rt.tF ?_ | refine Rt.os ?_ | refine Rt.clS ?_ | refine Rt.jmN ?_ | refine Rt.jbN ?_ | refine Rt.jbE ?_)) | ((with_reducible (first | apply Rt.ld0 | apply Rt.ld1 | apply Rt.ld2 | apply Rt.ld3 | apply Rt.ld4 | apply Rt.ld5)); first | assumption | exact Lc.kp (by assumption) (by assumption)) | ((with_reducible apply Rt.ol); first | assumption | exact cell_kp (by assumption) (by assumption)))); exact Rt.some' rfl))))
      have e : row ++ [IntKind.u8.wrap k] ++ enc kl ++ x.key = h0 ++ bodyB (xs.take (i + 1)) := by
        rw [hnext, u8w, hkk]
        unfold encO
        rw [if_neg (by omega), hkl]
        simp only [List.append_assoc, List.append_nil]
      rw [hl5, e]
      rw [hl5, e] at o5
      rw [i64_in _ (by omega), show ((i : Int) + 1) = ((i + 1 : Nat) : Int) by omega]
      exact ih (i + 1) j D5 f5 w5 (by omega) (by omega) k05 lb5 (Nat.le_trans hb3 (Nat.le_trans k34.size s5)) (o5.mono hb3)
abbrev bv (s : Int) (A : Option Addr) (l c : Nat) : Value := .agg #[.int .u64 s, .slice A l c]
theorem Rt.endE {w' : World} {B : Option Addr} {d : Nat} {e : Int} {x : List Int × Int} (hx : x = (bs, e)) (ho : Own .u8 5 w' w0.heap.size (.slice B bs.length d) bs) (hk : Kp w0 w') : Rt (some (⟨.ret, [.slice B bs.length d, .int .i64 e], w'⟩ : Res)) (fun r => r.ex = .ret ∧ ROe .u8 5 w0 x (r.vals, r.w)) := by
  subst hx; exact ⟨_, rfl, rfl, B, d, w', rfl, ho, hk⟩
theorem Bytes_spec {s : Int} (hs : 0 ≤ s ∧ s < 2 ^ 64) (hx : Ev opEl w A l c xs) (hn : 200 < n) : Rt (batch_Bytes n [bv s A l c] w) (ROe .u8 5 w (bytesB s xs)) := by
  have hxl := hx.len
  rw [batch_Bytes_eq]
  refine Rt.fin (Rt.al fun w1 l1 k1 s1 => ?_)
  (repeat (first | (with_reducible (first | refine Rt.fin ?_ | refine Rt.tL ?_ | refine Rt.tI ?_ | refine Rt.tB ?_ | refine Rt.tS ?_ | refine Rt.tP ?_ | refine Rt.tD ?_ | refine Rt.tM ?_ | refine Rt.tC ?_ | refine Rt.tN ?_ | refine Rt.tA ?_ | refine Rt.tG ?_ | refine Rt.tF ?_ | refine Rt.os ?_ | refine Rt.clS ?_ | refine Rt.jmN ?_ | refine Rt.jbN ?_ | refine Rt.jbE ?_)) | ((with_reducible (first | apply Rt.ld0 | apply Rt.ld1 | apply Rt.ld2 | apply Rt.ld3 | apply Rt.ld4 | apply Rt.ld5)); first | assumption | exact Lc.kp (by assumption) (by assumption)) | ((with_reducible apply Rt.ol); first | assumption | exact cell_kp (by assumption) (by assumption)) | ((with_reducible apply Rt.ckR); focus ((repeat (first | (with_reducible (first | refine Rt.fin ?_ | refine Rt.tL ?_ | refine Rt.tI ?_ | refine Rt.tB ?_ | refine Rt.tS ?_ | refine Rt.tP ?_ | refine Rt.tD ?_ | refine Rt.tM ?_ | refine Rt.tC ?_ | refine Rt.tN ?_ | refine Rt.tA ?_ | refine Rt.tG ?_ | refine Rt.tF ?_ | refine Rt.os ?_ | refine Rt.clS ?_ | refine Rt.jmN ?_ | refine Rt.jbN ?_ | refine Rt.jbE ?_)) | ((with_reducible (first | apply Rt.ld0 | apply Rt.ld1 | apply Rt.ld2 | apply Rt.ld3 | apply Rt.ld4 | apply Rt.ld5)); first | assumption | exact Lc.kp (by assumption) (by assumption)) | ((with_reducible apply Rt.ol); first | assumption | exact cell_kp (by assumption) (by assumption)))); exact Rt.some' rfl))))
  refine Rt.cI (Check_spec (hx.kp k1) hn) fun w2 k2 => ?_
  have k12 := k1.tr k2
  unfold bytesB
  refine Rt.cN (fun h => ?_) fun h => ?_
  · obtain ⟨c1, c2, c3⟩ := checkC_ok.1 h
    rw [if_neg (by simpa using h)]
    (repeat (first | (with_reducible (first | refine Rt.fin ?_ | refine Rt.tL ?_ | refine Rt.tI ?_ | refine Rt.tB ?_ | refine Rt.tS ?_ | refine Rt.tP ?_ | refine Rt.tD ?_ | refine Rt.tM ?_ | refine Rt.tC ?_ | refine Rt.tN ?_ | refine Rt.tA ?_ | refine Rt.tG ?_ | refine Rt.tF ?_ | refine Rt.os ?_ | refine Rt.clS ?_ | refine Rt.jmN ?_ | refine Rt.jbN ?_ | refine Rt.jbE ?_)) | ((with_reducible (first | apply Rt.ld0 | apply Rt.ld1 | apply Rt.ld2 | apply Rt.ld3 | apply Rt.ld4 | apply Rt.ld5)); first | assumption | exact Lc.kp (by assumption) (by assumption)) | ((with_reducible apply Rt.ol); first | assumption | exact cell_kp (by assumption) (by assumption)) | ((with_reducible apply Rt.ckR); focus ((repeat (first | (with_reducible (first | refine Rt.fin ?_ | refine Rt.tL ?_ | refine Rt.tI ?_ | refine Rt.tB ?_ | refine Rt.tS ?_ | refine Rt.tP ?_ | refine Rt.tD ?_ | refine Rt.tM ?_ | refine Rt.tC ?_ | refine Rt.tN ?_ | refine Rt.tA ?_ | refine Rt.tG ?_ | refine Rt.tF ?_ | refine Rt.os ?_ | refine Rt.clS ?_ | refine Rt.jmN ?_ | refine Rt.jbN ?_ | refine Rt.jbE ?_)) | ((with_reducible (first | apply Rt.ld0 | apply Rt.ld1 | apply Rt.ld2 | apply Rt.ld3 | apply Rt.ld4 | apply Rt.ld5)); first | assumption | exact Lc.kp (by assumption) (by assumption)) | ((with_reducible apply Rt.ol); first | assumption | exact cell_kp (by assumption) (by assumption)))); exact Rt.some' rfl))))
    refine Rt.cBo (numbered_spec hs (by omega) (by omega)) fun b w3 hb k3 => ?_
    have k13 := k12.tr k3
    have m23 := k2.tr k3
    cases b with
    | false =>
      rw [hxl, if_neg (fun h' => by simpa using hb.2 h')]
      exact Rt.cT rfl (Rt.endE rfl (Own.nil _ _) k13)
    | true =>
      rw [hxl, if_pos (hb.1 rfl)]
      refine Rt.cF rfl ?_
      have m23' := m23.dr
      have k13' := k13.dr
      (repeat (first | (with_reducible (first | refine Rt.fin ?_ | refine Rt.tL ?_ | refine Rt.tI ?_ | refine Rt.tB ?_ | refine Rt.tS ?_ | refine Rt.tP ?_ | refine Rt.tD ?_ | refine Rt.tM ?_ | refine Rt.tC ?_ | refine Rt.tN ?_ | refine Rt.tA ?_ | refine Rt.tG ?_ | refine Rt.tF ?_ | refine Rt.os ?_ | refine Rt.clS ?_ | refine Rt.jmN ?_ | refine Rt.jbN ?_ | refine Rt.jbE ?_)) | ((with_reducible (first | apply Rt.ld0 | apply Rt.ld1 | apply Rt.ld2 | apply Rt.ld3 | apply Rt.ld4 | apply Rt.ld5)); first | assumption | exact Lc.kp (by assumption) (by assumption)) | ((with_reducible apply Rt.ol); first | assumption | exact cell_kp (by assumption) (by assumption)) | ((with_reducible apply Rt.ckR); focus ((repeat (first | (with_reducible (first | refine Rt.fin ?_ | refine Rt.tL ?_ | refine Rt.tI ?_ | refine Rt.tB ?_ | refine Rt.tS ?_ | refine Rt.tP ?_ | refine Rt.tD ?_ | refine Rt.tM ?_ | refine Rt.tC ?_ | refine Rt.tN ?_ | refine Rt.tA ?_ | refine Rt.tG ?_ | refine Rt.tF ?_ | refine Rt.os ?_ | refine Rt.clS ?_ | refine Rt.jmN ?_ | refine Rt.jbN ?_ | refine Rt.jbE ?_)) | ((with_reducible (first | apply Rt.ld0 | apply Rt.ld1 | apply Rt.ld2 | apply Rt.ld3 | apply Rt.ld4 | apply Rt.ld5)); first | assumption | exact Lc.kp (by assumption) (by assumption)) | ((with_reducible apply Rt.ol); first | assumption | exact cell_kp (by assumption) (by assumption)))); exact Rt.some' rfl))))
      refine Rt.cOb (low_spec (bs := []) (mm := 8) (w0 := w3.drew) (base := w3.drew.heap.size) hs (by decide) (Nat.le_refl _) (Own.nil _ _) (Kp.rfl' _) (Nat.le_refl _) (by simp) (by omega)) fun D f w4 o4 k4 => ?_
      have m24 := m23'.tr k4
      have k14 := k13'.tr k4
      (repeat (first | (with_reducible (first | refine Rt.fin ?_ | refine Rt.tL ?_ | refine Rt.tI ?_ | refine Rt.tB ?_ | refine Rt.tS ?_ | refine Rt.tP ?_ | refine Rt.tD ?_ | refine Rt.tM ?_ | refine Rt.tC ?_ | refine Rt.tN ?_ | refine Rt.tA ?_ | refine Rt.tG ?_ | refine Rt.tF ?_ | refine Rt.os ?_ | refine Rt.clS ?_ | refine Rt.jmN ?_ | refine Rt.jbN ?_ | refine Rt.jbE ?_)) | ((with_reducible (first | apply Rt.ld0 | apply Rt.ld1 | apply Rt.ld2 | apply Rt.ld3 | apply Rt.ld4 | apply Rt.ld5)); first | assumption | exact Lc.kp (by assumption) (by assumption)) | ((with_reducible apply Rt.ol); first | assumption | exact cell_kp (by assumption) (by assumption)) | ((with_reducible apply Rt.ckR); focus ((repeat (first | (with_reducible (first | refine Rt.fin ?_ | refine Rt.tL ?_ | refine Rt.tI ?_ | refine Rt.tB ?_ | refine Rt.tS ?_ | refine Rt.tP ?_ | refine Rt.tD ?_ | refine Rt.tM ?_ | refine Rt.tC ?_ | refine Rt.tN ?_ | refine Rt.tA ?_ | refine Rt.tG ?_ | refine Rt.tF ?_ | refine Rt.os ?_ | refine Rt.clS ?_ | refine Rt.jmN ?_ | refine Rt.jbN ?_ | refine Rt.jbE ?_)) | ((with_reducible (first | apply Rt.ld0 | apply Rt.ld1 | apply Rt.ld2 | apply Rt.ld3 | apply Rt.ld4 | apply Rt.ld5)); first | assumption | exact Lc.kp (by assumption) (by assumption)) | ((with_reducible apply Rt.ol); first | assumption | exact cell_kp (by assumption) (by assumption)))); exact Rt.some' rfl))))
      rw [u64_in (l : Int) (by omega)]
      refine Rt.cOb (low_spec (mm := 4) (w0 := w3.drew) (base := w3.drew.heap.size) (v := (l : Int)) (by omega) (by decide) (Nat.le_refl _) o4 k4 k4.size (by simp [lowB_len]) (by omega)) fun E g w5 o5 k5 => ?_
      have m25 := m23'.tr k5
      have k15 := k13'.tr k5
      (repeat (first | (with_reducible (first | refine Rt.fin ?_ | refine Rt.tL ?_ | refine Rt.tI ?_ | refine Rt.tB ?_ | refine Rt.tS ?_ | refine Rt.tP ?_ | refine Rt.tD ?_ | refine Rt.tM ?_ | refine Rt.tC ?_ | refine Rt.tN ?_ | refine Rt.tA ?_ | refine Rt.tG ?_ | refine Rt.tF ?_ | refine Rt.os ?_ | refine Rt.clS ?_ | refine Rt.jmN ?_ | refine Rt.jbN ?_ | refine Rt.jbE ?_)) | ((with_reducible (first | apply Rt.ld0 | apply Rt.ld1 | apply Rt.ld2 | apply Rt.ld3 | apply Rt.ld4 | apply Rt.ld5)); first | assumption | exact Lc.kp (by assumption) (by assumption)) | ((with_reducible apply Rt.ol); first | assumption | exact cell_kp (by assumption) (by assumption)) | ((with_reducible apply Rt.ckR); focus ((repeat (first | (with_reducible (first | refine Rt.fin ?_ | refine Rt.tL ?_ | refine Rt.tI ?_ | refine Rt.tB ?_ | refine Rt.tS ?_ | refine Rt.tP ?_ | refine Rt.tD ?_ | refine Rt.tM ?_ | refine Rt.tC ?_ | refine Rt.tN ?_ | refine Rt.tA ?_ | refine Rt.tG ?_ | refine Rt.tF ?_ | refine Rt.os ?_ | refine Rt.clS ?_ | refine Rt.jmN ?_ | refine Rt.jbN ?_ | refine Rt.jbE ?_)) | ((with_reducible (first | apply Rt.ld0 | apply Rt.ld1 | apply Rt.ld2 | apply Rt.ld3 | apply Rt.ld4 | apply Rt.ld5)); first | assumption | exact Lc.kp (by assumption) (by assumption)) | ((with_reducible apply Rt.ol); first | assumption | exact cell_kp (by assumption) (by assumption)))); exact Rt.some' rfl))))
      have h0 := Bytes_l0 (n := n) (w0 := w) hx c3 (by omega) (h0 := [] ++ lowB 8 s ++ lowB 4 l) (by simp [lowB_len]) hn l 0 n E g w5 (by omega) (by omega) k15 (by simpa [bodyB] using o5.mono k13'.size)
      have e0 : ([] ++ lowB 8 s ++ lowB 4 (l : Int) ++ bodyB (List.take 0 xs)) = [] ++ lowB 8 s ++ lowB 4 (l : Int) := by simp [bodyB]
      rw [e0] at h0
      refine Rt.jb (Rt.mono h0 ?_)
      rintro ⟨ex, vs, w6⟩ ⟨h1, F, p, h2, h3, h4⟩
      dsimp only at h1 h2 h3 h4
      subst h1 h2
      refine .inl ⟨.inr rfl, ?_⟩
      (repeat (first | (with_reducible (first | refine Rt.fin ?_ | refine Rt.tL ?_ | refine Rt.tI ?_ | refine Rt.tB ?_ | refine Rt.tS ?_ | refine Rt.tP ?_ | refine Rt.tD ?_ | refine Rt.tM ?_ | refine Rt.tC ?_ | refine Rt.tN ?_ | refine Rt.tA ?_ | refine Rt.tG ?_ | refine Rt.tF ?_ | refine Rt.os ?_ | refine Rt.clS ?_ | refine Rt.jmN ?_ | refine Rt.jbN ?_ | refine Rt.jbE ?_)) | ((with_reducible (first | apply Rt.ld0 | apply Rt.ld1 | apply Rt.ld2 | apply Rt.ld3 | apply Rt.ld4 | apply Rt.ld5)); first | assumption | exact Lc.kp (by assumption) (by assumption)) | ((with_reducible apply Rt.ol); first | assumption | exact cell_kp (by assumption) (by assumption)) | ((with_reducible apply Rt.ckR); focus ((repeat (first | (with_reducible (first | refine Rt.fin ?_ | refine Rt.tL ?_ | refine Rt.tI ?_ | refine Rt.tB ?_ | refine Rt.tS ?_ | refine Rt.tP ?_ | refine Rt.tD ?_ | refine Rt.tM ?_ | refine Rt.tC ?_ | refine Rt.tN ?_ | refine Rt.tA ?_ | refine Rt.tG ?_ | refine Rt.tF ?_ | refine Rt.os ?_ | refine Rt.clS ?_ | refine Rt.jmN ?_ | refine Rt.jbN ?_ | refine Rt.jbE ?_)) | ((with_reducible (first | apply Rt.ld0 | apply Rt.ld1 | apply Rt.ld2 | apply Rt.ld3 | apply Rt.ld4 | apply Rt.ld5)); first | assumption | exact Lc.kp (by assumption) (by assumption)) | ((with_reducible apply Rt.ol); first | assumption | exact cell_kp (by assumption) (by assumption)))); exact Rt.some' rfl))))
      exact Rt.endE (by rw [encB, hxl]; rfl) h3 h4
  · rw [if_pos h]
    exact Rt.endE rfl (Own.nil _ _) k12
theorem rightOp_spec (hx : OpV w k A l c B m d x) : Rt (butteryref1_rightOp n [ov k A l c B m d] w) (RB (rightO x) w) := by
  have h1 := hx.kind
  have h2 := hx.key.len
  have h3 := hx.val.len
  rw [butteryref1_rightOp_eq]
  unfold rightO
  refine Rt.fin (Rt.al fun w1 l1 k1 _ => ?_)
  have tail : ∀ {y : Option Res}, (x.kind = 0 ∧ x.val.length = 0 ∨ x.kind = 1) → y = (opt (w1.cell? (Addr.add ⟨w.heap.size, 0, none⟩ 1)) fun v7 => tL v7 fun A8 l9 c10 => cond (decide ((l9 : Int) ≥ 1)) (opt (w1.cell? (Addr.add ⟨w.heap.size, 0, none⟩ 1)) fun v11 => tL v11 fun A12 l13 c14 => cond (decide ((l13 : Int) ≤ 256)) (opt (w1.cell? (Addr.add ⟨w.heap.size, 0, none⟩ 2)) fun v15 => tL v15 fun A16 l17 c18 => some ⟨.ret, [(.bool (decide ((l17 : Int) ≤ 4096)))], w1⟩) (some ⟨.ret, [(.bool false)], w1⟩)) (some ⟨.ret, [(.bool false)], w1⟩)) →
      Rt y (fun r => r.ex = .ret ∧ RB ((x.kind = 0 ∧ x.val.length = 0 ∨ x.kind = 1) ∧ 1 ≤ x.key.length ∧ x.key.length ≤ 256 ∧ x.val.length ≤ 4096) w (r.vals, r.w)) := by
    intro y hk e
    subst e
    (repeat (first | (with_reducible (first | refine Rt.fin ?_ | refine Rt.tL ?_ | refine Rt.tI ?_ | refine Rt.tB ?_ | refine Rt.tS ?_ | refine Rt.tP ?_ | refine Rt.tD ?_ | refine Rt.tM ?_ | refine Rt.tC ?_ | refine Rt.tN ?_ | refine Rt.tA ?_ | refine Rt.tG ?_ | refine Rt.tF ?_ | refine Rt.os ?_ | refine Rt.clS ?_ | refine Rt.jmN ?_ | refine Rt.jbN ?_ | refine Rt.jbE ?_)) | ((with_reducible (first | apply Rt.ld0 | apply Rt.ld1 | apply Rt.ld2 | apply Rt.ld3 | apply Rt.ld4 | apply Rt.ld5)); first | assumption | exact Lc.kp (by assumption) (by assumption)) | ((with_reducible apply Rt.ol); first | assumption | exact cell_kp (by assumption) (by assumption)) | ((with_reducible apply Rt.ckR); focus ((repeat (first | (with_reducible (first | refine Rt.fin ?_ | refine Rt.tL ?_ | refine Rt.tI ?_ | refine Rt.tB ?_ | refine Rt.tS ?_ | refine Rt.tP ?_ | refine Rt.tD ?_ | refine Rt.tM ?_ | refine Rt.tC ?_ | refine Rt.tN ?_ | refine Rt.tA ?_ | refine Rt.tG ?_ | refine Rt.tF ?_ | refine Rt.os ?_ | refine Rt.clS ?_ | refine Rt.jmN ?_ | refine Rt.jbN ?_ | refine Rt.jbE ?_)) | ((with_reducible (first | apply Rt.ld0 | apply Rt.ld1 | apply Rt.ld2 | apply Rt.ld3 | apply Rt.ld4 | apply Rt.ld5)); first | assumption | exact Lc.kp (by assumption) (by assumption)) | ((with_reducible apply Rt.ol); first | assumption | exact cell_kp (by assumption) (by assumption)))); exact Rt.some' rfl))))
    refine Rt.cD (fun h => ?_) fun h => ?_
    · (repeat (first | (with_reducible (first | refine Rt.fin ?_ | refine Rt.tL ?_ | refine Rt.tI ?_ | refine Rt.tB ?_ | refine Rt.tS ?_ | refine Rt.tP ?_ | refine Rt.tD ?_ | refine Rt.tM ?_ | refine Rt.tC ?_ | refine Rt.tN ?_ | refine Rt.tA ?_ | refine Rt.tG ?_ | refine Rt.tF ?_ | refine Rt.os ?_ | refine Rt.clS ?_ | refine Rt.jmN ?_ | refine Rt.jbN ?_ | refine Rt.jbE ?_)) | ((with_reducible (first | apply Rt.ld0 | apply Rt.ld1 | apply Rt.ld2 | apply Rt.ld3 | apply Rt.ld4 | apply Rt.ld5)); first | assumption | exact Lc.kp (by assumption) (by assumption)) | ((with_reducible apply Rt.ol); first | assumption | exact cell_kp (by assumption) (by assumption)) | ((with_reducible apply Rt.ckR); focus ((repeat (first | (with_reducible (first | refine Rt.fin ?_ | refine Rt.tL ?_ | refine Rt.tI ?_ | refine Rt.tB ?_ | refine Rt.tS ?_ | refine Rt.tP ?_ | refine Rt.tD ?_ | refine Rt.tM ?_ | refine Rt.tC ?_ | refine Rt.tN ?_ | refine Rt.tA ?_ | refine Rt.tG ?_ | refine Rt.tF ?_ | refine Rt.os ?_ | refine Rt.clS ?_ | refine Rt.jmN ?_ | refine Rt.jbN ?_ | refine Rt.jbE ?_)) | ((with_reducible (first | apply Rt.ld0 | apply Rt.ld1 | apply Rt.ld2 | apply Rt.ld3 | apply Rt.ld4 | apply Rt.ld5)); first | assumption | exact Lc.kp (by assumption) (by assumption)) | ((with_reducible apply Rt.ol); first | assumption | exact cell_kp (by assumption) (by assumption)))); exact Rt.some' rfl))))
      refine Rt.cD (fun h => ?_) fun h => ?_
      · (repeat (first | (with_reducible (first | refine Rt.fin ?_ | refine Rt.tL ?_ | refine Rt.tI ?_ | refine Rt.tB ?_ | refine Rt.tS ?_ | refine Rt.tP ?_ | refine Rt.tD ?_ | refine Rt.tM ?_ | refine Rt.tC ?_ | refine Rt.tN ?_ | refine Rt.tA ?_ | refine Rt.tG ?_ | refine Rt.tF ?_ | refine Rt.os ?_ | refine Rt.clS ?_ | refine Rt.jmN ?_ | refine Rt.jbN ?_ | refine Rt.jbE ?_)) | ((with_reducible (first | apply Rt.ld0 | apply Rt.ld1 | apply Rt.ld2 | apply Rt.ld3 | apply Rt.ld4 | apply Rt.ld5)); first | assumption | exact Lc.kp (by assumption) (by assumption)) | ((with_reducible apply Rt.ol); first | assumption | exact cell_kp (by assumption) (by assumption)) | ((with_reducible apply Rt.ckR); focus ((repeat (first | (with_reducible (first | refine Rt.fin ?_ | refine Rt.tL ?_ | refine Rt.tI ?_ | refine Rt.tB ?_ | refine Rt.tS ?_ | refine Rt.tP ?_ | refine Rt.tD ?_ | refine Rt.tM ?_ | refine Rt.tC ?_ | refine Rt.tN ?_ | refine Rt.tA ?_ | refine Rt.tG ?_ | refine Rt.tF ?_ | refine Rt.os ?_ | refine Rt.clS ?_ | refine Rt.jmN ?_ | refine Rt.jbN ?_ | refine Rt.jbE ?_)) | ((with_reducible (first | apply Rt.ld0 | apply Rt.ld1 | apply Rt.ld2 | apply Rt.ld3 | apply Rt.ld4 | apply Rt.ld5)); first | assumption | exact Lc.kp (by assumption) (by assumption)) | ((with_reducible apply Rt.ol); first | assumption | exact cell_kp (by assumption) (by assumption)))); exact Rt.some' rfl))))
        exact Rt.endB (by simp only [decide_eq_true_eq]; omega) k1
      · exact Rt.endB (by simp only [Bool.false_eq_true, false_iff]; omega) k1
    · exact Rt.endB (by simp only [Bool.false_eq_true, false_iff]; omega) k1
  (repeat (first | (with_reducible (first | refine Rt.fin ?_ | refine Rt.tL ?_ | refine Rt.tI ?_ | refine Rt.tB ?_ | refine Rt.tS ?_ | refine Rt.tP ?_ | refine Rt.tD ?_ | refine Rt.tM ?_ | refine Rt.tC ?_ | refine Rt.tN ?_ | refine Rt.tA ?_ | refine Rt.tG ?_ | refine Rt.tF ?_ | refine Rt.os ?_ | refine Rt.clS ?_ | refine Rt.jmN ?_ | refine Rt.jbN ?_ | refine Rt.jbE ?_)) | ((with_reducible (first | apply Rt.ld0 | apply Rt.ld1 | apply Rt.ld2 | apply Rt.ld3 | apply Rt.ld4 | apply Rt.ld5)); first | assumption | exact Lc.kp (by assumption) (by assumption)) | ((with_reducible apply Rt.ol); first | assumption | exact cell_kp (by assumption) (by assumption)) | ((with_reducible apply Rt.ckR); focus ((repeat (first | (with_reducible (first | refine Rt.fin ?_ | refine Rt.tL ?_ | refine Rt.tI ?_ | refine Rt.tB ?_ | refine Rt.tS ?_ | refine Rt.tP ?_ | refine Rt.tD ?_ | refine Rt.tM ?_ | refine Rt.tC ?_ | refine Rt.tN ?_ | refine Rt.tA ?_ | refine Rt.tG ?_ | refine Rt.tF ?_ | refine Rt.os ?_ | refine Rt.clS ?_ | refine Rt.jmN ?_ | refine Rt.jbN ?_ | refine Rt.jbE ?_)) | ((with_reducible (first | apply Rt.ld0 | apply Rt.ld1 | apply Rt.ld2 | apply Rt.ld3 | apply Rt.ld4 | apply Rt.ld5)); first | assumption | exact Lc.kp (by assumption) (by assumption)) | ((with_reducible apply Rt.ol); first | assumption | exact cell_kp (by assumption) (by assumption)))); exact Rt.some' rfl))))
  refine Rt.cQ (fun h => ?_) fun h => ?_
  · (repeat (first | (with_reducible (first | refine Rt.fin ?_ | refine Rt.tL ?_ | refine Rt.tI ?_ | refine Rt.tB ?_ | refine Rt.tS ?_ | refine Rt.tP ?_ | refine Rt.tD ?_ | refine Rt.tM ?_ | refine Rt.tC ?_ | refine Rt.tN ?_ | refine Rt.tA ?_ | refine Rt.tG ?_ | refine Rt.tF ?_ | refine Rt.os ?_ | refine Rt.clS ?_ | refine Rt.jmN ?_ | refine Rt.jbN ?_ | refine Rt.jbE ?_)) | ((with_reducible (first | apply Rt.ld0 | apply Rt.ld1 | apply Rt.ld2 | apply Rt.ld3 | apply Rt.ld4 | apply Rt.ld5)); first | assumption | exact Lc.kp (by assumption) (by assumption)) | ((with_reducible apply Rt.ol); first | assumption | exact cell_kp (by assumption) (by assumption)) | ((with_reducible apply Rt.ckR); focus ((repeat (first | (with_reducible (first | refine Rt.fin ?_ | refine Rt.tL ?_ | refine Rt.tI ?_ | refine Rt.tB ?_ | refine Rt.tS ?_ | refine Rt.tP ?_ | refine Rt.tD ?_ | refine Rt.tM ?_ | refine Rt.tC ?_ | refine Rt.tN ?_ | refine Rt.tA ?_ | refine Rt.tG ?_ | refine Rt.tF ?_ | refine Rt.os ?_ | refine Rt.clS ?_ | refine Rt.jmN ?_ | refine Rt.jbN ?_ | refine Rt.jbE ?_)) | ((with_reducible (first | apply Rt.ld0 | apply Rt.ld1 | apply Rt.ld2 | apply Rt.ld3 | apply Rt.ld4 | apply Rt.ld5)); first | assumption | exact Lc.kp (by assumption) (by assumption)) | ((with_reducible apply Rt.ol); first | assumption | exact cell_kp (by assumption) (by assumption)))); exact Rt.some' rfl))))
    refine Rt.cQ (fun h => ?_) fun h => ?_
    · exact tail (by omega) rfl
    · (repeat (first | (with_reducible (first | refine Rt.fin ?_ | refine Rt.tL ?_ | refine Rt.tI ?_ | refine Rt.tB ?_ | refine Rt.tS ?_ | refine Rt.tP ?_ | refine Rt.tD ?_ | refine Rt.tM ?_ | refine Rt.tC ?_ | refine Rt.tN ?_ | refine Rt.tA ?_ | refine Rt.tG ?_ | refine Rt.tF ?_ | refine Rt.os ?_ | refine Rt.clS ?_ | refine Rt.jmN ?_ | refine Rt.jbN ?_ | refine Rt.jbE ?_)) | ((with_reducible (first | apply Rt.ld0 | apply Rt.ld1 | apply Rt.ld2 | apply Rt.ld3 | apply Rt.ld4 | apply Rt.ld5)); first | assumption | exact Lc.kp (by assumption) (by assumption)) | ((with_reducible apply Rt.ol); first | assumption | exact cell_kp (by assumption) (by assumption)) | ((with_reducible apply Rt.ckR); focus ((repeat (first | (with_reducible (first | refine Rt.fin ?_ | refine Rt.tL ?_ | refine Rt.tI ?_ | refine Rt.tB ?_ | refine Rt.tS ?_ | refine Rt.tP ?_ | refine Rt.tD ?_ | refine Rt.tM ?_ | refine Rt.tC ?_ | refine Rt.tN ?_ | refine Rt.tA ?_ | refine Rt.tG ?_ | refine Rt.tF ?_ | refine Rt.os ?_ | refine Rt.clS ?_ | refine Rt.jmN ?_ | refine Rt.jbN ?_ | refine Rt.jbE ?_)) | ((with_reducible (first | apply Rt.ld0 | apply Rt.ld1 | apply Rt.ld2 | apply Rt.ld3 | apply Rt.ld4 | apply Rt.ld5)); first | assumption | exact Lc.kp (by assumption) (by assumption)) | ((with_reducible apply Rt.ol); first | assumption | exact cell_kp (by assumption) (by assumption)))); exact Rt.some' rfl))))
      refine Rt.cQ (fun h => ?_) fun h => ?_
      · exact tail (by omega) rfl
      · exact Rt.endB (by simp only [Bool.false_eq_true, false_iff]; omega) k1
  · (repeat (first | (with_reducible (first | refine Rt.fin ?_ | refine Rt.tL ?_ | refine Rt.tI ?_ | refine Rt.tB ?_ | refine Rt.tS ?_ | refine Rt.tP ?_ | refine Rt.tD ?_ | refine Rt.tM ?_ | refine Rt.tC ?_ | refine Rt.tN ?_ | refine Rt.tA ?_ | refine Rt.tG ?_ | refine Rt.tF ?_ | refine Rt.os ?_ | refine Rt.clS ?_ | refine Rt.jmN ?_ | refine Rt.jbN ?_ | refine Rt.jbE ?_)) | ((with_reducible (first | apply Rt.ld0 | apply Rt.ld1 | apply Rt.ld2 | apply Rt.ld3 | apply Rt.ld4 | apply Rt.ld5)); first | assumption | exact Lc.kp (by assumption) (by assumption)) | ((with_reducible apply Rt.ol); first | assumption | exact cell_kp (by assumption) (by assumption)) | ((with_reducible apply Rt.ckR); focus ((repeat (first | (with_reducible (first | refine Rt.fin ?_ | refine Rt.tL ?_ | refine Rt.tI ?_ | refine Rt.tB ?_ | refine Rt.tS ?_ | refine Rt.tP ?_ | refine Rt.tD ?_ | refine Rt.tM ?_ | refine Rt.tC ?_ | refine Rt.tN ?_ | refine Rt.tA ?_ | refine Rt.tG ?_ | refine Rt.tF ?_ | refine Rt.os ?_ | refine Rt.clS ?_ | refine Rt.jmN ?_ | refine Rt.jbN ?_ | refine Rt.jbE ?_)) | ((with_reducible (first | apply Rt.ld0 | apply Rt.ld1 | apply Rt.ld2 | apply Rt.ld3 | apply Rt.ld4 | apply Rt.ld5)); first | assumption | exact Lc.kp (by assumption) (by assumption)) | ((with_reducible apply Rt.ol); first | assumption | exact cell_kp (by assumption) (by assumption)))); exact Rt.some' rfl))))
    refine Rt.cQ (fun h => ?_) fun h => ?_
    · exact tail (by omega) rfl
    · exact Rt.endB (by simp only [Bool.false_eq_true, false_iff]; omega) k1
theorem CheckOps_l0 (hs : Ev opEl w A l c xs) (hl : l ≤ 100) : ∀ (q i j : Nat) (w' : World), i + q = l → q < j → Kp w w' → (∀ o ∈ xs.take i, rightO o) →
    Rt (butteryref1_CheckOps.l0 n j A l c (i : Int) w') fun r => Kp w r.w ∧ (r.ex = .exit 0 ∧ r.vals = [] ∧ (∀ o ∈ xs, rightO o) ∨ r.ex = .ret ∧ r.vals = [.int .i64 1] ∧ ¬(∀ o ∈ xs, rightO o)) := by
  intro q
  have hxl := hs.len
  induction q with
  | zero =>
    intro i j w' hi hj hk hr
    obtain ⟨j, rfl⟩ : ∃ j', j = j' + 1 := ⟨j - 1, by omega⟩
    rw [butteryref1_CheckOps.l0_succ]
    exact Rt.cDF (by omega) (Rt.some' ⟨hk, .inl ⟨rfl, rfl, by rwa [List.take_of_length_le (by omega)] at hr⟩⟩)
  | succ q ih =>
    intro i j w' hi hj hk hr
    obtain ⟨j, rfl⟩ : ∃ j', j = j' + 1 := ⟨j - 1, by omega⟩
    rw [butteryref1_CheckOps.l0_succ]
    refine Rt.cDT (by omega) (Rt.ixO hs.sl (by omega) (by omega) fun x a k B m d C p q ex hv c0 c1 c2 => ?_)
    (repeat (first | (with_reducible (first | refine Rt.fin ?_ | refine Rt.tL ?_ | refine Rt.tI ?_ | refine Rt.tB ?_ | refine Rt.tS ?_ | refine Rt.tP ?_ | refine Rt.tD ?_ | refine Rt.tM ?_ | refine Rt.tC ?_ | refine Rt.tN ?_ | refine Rt.tA ?_ | refine Rt.tG ?_ | refine Rt.tF ?_ | refine Rt.os ?_ | refine Rt.clS ?_ | refine Rt.jmN ?_ | refine Rt.jbN ?_ | refine Rt.jbE ?_)) | ((with_reducible (first | apply Rt.ld0 | apply Rt.ld1 | apply Rt.ld2 | apply Rt.ld3 | apply Rt.ld4 | apply Rt.ld5)); first | assumption | exact Lc.kp (by assumption) (by assumption)) | ((with_reducible apply Rt.ol); first | assumption | exact cell_kp (by assumption) (by assumption)) | ((with_reducible apply Rt.ckR); focus ((repeat (first | (with_reducible (first | refine Rt.fin ?_ | refine Rt.tL ?_ | refine Rt.tI ?_ | refine Rt.tB ?_ | refine Rt.tS ?_ | refine Rt.tP ?_ | refine Rt.tD ?_ | refine Rt.tM ?_ | refine Rt.tC ?_ | refine Rt.tN ?_ | refine Rt.tA ?_ | refine Rt.tG ?_ | refine Rt.tF ?_ | refine Rt.os ?_ | refine Rt.clS ?_ | refine Rt.jmN ?_ | refine Rt.jbN ?_ | refine Rt.jbE ?_)) | ((with_reducible (first | apply Rt.ld0 | apply Rt.ld1 | apply Rt.ld2 | apply Rt.ld3 | apply Rt.ld4 | apply Rt.ld5)); first | assumption | exact Lc.kp (by assumption) (by assumption)) | ((with_reducible apply Rt.ol); first | assumption | exact cell_kp (by assumption) (by assumption)))); exact Rt.some' rfl))))
    refine Rt.cBo (rightOp_spec (hv.kp hk)) fun b w2 hb k2 => ?_
    have hk2 := hk.tr k2
    have hmem : x ∈ xs := List.mem_of_getElem? ex
    cases b with
    | false => exact Rt.cT rfl (Rt.some' ⟨hk2, .inr ⟨rfl, rfl, fun h => by simpa using hb.2 (h x hmem)⟩⟩)
    | true =>
      refine Rt.cF rfl ?_
      rw [i64_in _ (by omega), show ((i : Int) + 1) = ((i + 1 : Nat) : Int) by omega]
      refine ih (i + 1) j w2 (by omega) (by omega) hk2 fun o ho => ?_
      have ex' : xs[i]? = some x := by simpa using ex
      rw [List.take_add_one, ex', List.mem_append] at ho
      rcases ho with ho | ho
      · exact hr o ho
      · simp at ho; subst ho; exact hb.1 rfl
theorem CheckOps_spec (hs : Ev opEl w A l c xs) (hn : 200 < n) : Rt (butteryref1_CheckOps n [.slice A l c] w) (RI .i64 (checkC xs) w) := by
  have hxl := hs.len
  rw [butteryref1_CheckOps_eq]
  unfold checkC
  refine Rt.fin (Rt.cD (fun h => ?_) fun h1 => Rt.cD (fun h => ?_) fun h2 => ?_)
  · exact Rt.endI (by rw [if_pos (by omega)]) (Kp.rfl' w)
  · exact Rt.endI (by rw [if_pos (by omega)]) (Kp.rfl' w)
  · rw [if_neg (by omega)]
    refine Rt.jb (Rt.mono (CheckOps_l0 (n := n) hs (by omega) l 0 n w (by omega) (by omega) (Kp.rfl' w) (by simp)) ?_)
    rintro ⟨ex, vs, w1⟩ ⟨k1, ⟨h3, h4, h5⟩ | ⟨h3, h4, h5⟩⟩
    · dsimp only at h3 h4 k1
      subst h3 h4
      refine .inl ⟨.inr rfl, ?_⟩
      (repeat (first | (with_reducible (first | refine Rt.fin ?_ | refine Rt.tL ?_ | refine Rt.tI ?_ | refine Rt.tB ?_ | refine Rt.tS ?_ | refine Rt.tP ?_ | refine Rt.tD ?_ | refine Rt.tM ?_ | refine Rt.tC ?_ | refine Rt.tN ?_ | refine Rt.tA ?_ | refine Rt.tG ?_ | refine Rt.tF ?_ | refine Rt.os ?_ | refine Rt.clS ?_ | refine Rt.jmN ?_ | refine Rt.jbN ?_ | refine Rt.jbE ?_)) | ((with_reducible (first | apply Rt.ld0 | apply Rt.ld1 | apply Rt.ld2 | apply Rt.ld3 | apply Rt.ld4 | apply Rt.ld5)); first | assumption | exact Lc.kp (by assumption) (by assumption)) | ((with_reducible apply Rt.ol); first | assumption | exact cell_kp (by assumption) (by assumption)) | ((with_reducible apply Rt.ckR); focus ((repeat (first | (with_reducible (first | refine Rt.fin ?_ | refine Rt.tL ?_ | refine Rt.tI ?_ | refine Rt.tB ?_ | refine Rt.tS ?_ | refine Rt.tP ?_ | refine Rt.tD ?_ | refine Rt.tM ?_ | refine Rt.tC ?_ | refine Rt.tN ?_ | refine Rt.tA ?_ | refine Rt.tG ?_ | refine Rt.tF ?_ | refine Rt.os ?_ | refine Rt.clS ?_ | refine Rt.jmN ?_ | refine Rt.jbN ?_ | refine Rt.jbE ?_)) | ((with_reducible (first | apply Rt.ld0 | apply Rt.ld1 | apply Rt.ld2 | apply Rt.ld3 | apply Rt.ld4 | apply Rt.ld5)); first | assumption | exact Lc.kp (by assumption) (by assumption)) | ((with_reducible apply Rt.ol); first | assumption | exact cell_kp (by assumption) (by assumption)))); exact Rt.some' rfl))))
      exact Rt.endI (by rw [if_pos h5]) k1
    · dsimp only at h3 h4 k1
      subst h3 h4
      exact .inr ⟨rfl, rfl, w1, by rw [if_neg h5], k1⟩
theorem RBytes_spec {s : Int} (hs : 0 ≤ s ∧ s < 2 ^ 64) (hx : Ev opEl w A l c xs) (hn : 200 < n) : Rt (butteryref1_BatchBytes n [bv s A l c] w) (ROe .u8 5 w (bytesB s xs)) := by
  have hxl := hx.len
  rw [butteryref1_BatchBytes_eq]
  refine Rt.fin (Rt.al fun w1 l1 k1 s1 => ?_)
  (repeat (first | (with_reducible (first | refine Rt.fin ?_ | refine Rt.tL ?_ | refine Rt.tI ?_ | refine Rt.tB ?_ | refine Rt.tS ?_ | refine Rt.tP ?_ | refine Rt.tD ?_ | refine Rt.tM ?_ | refine Rt.tC ?_ | refine Rt.tN ?_ | refine Rt.tA ?_ | refine Rt.tG ?_ | refine Rt.tF ?_ | refine Rt.os ?_ | refine Rt.clS ?_ | refine Rt.jmN ?_ | refine Rt.jbN ?_ | refine Rt.jbE ?_)) | ((with_reducible (first | apply Rt.ld0 | apply Rt.ld1 | apply Rt.ld2 | apply Rt.ld3 | apply Rt.ld4 | apply Rt.ld5)); first | assumption | exact Lc.kp (by assumption) (by assumption)) | ((with_reducible apply Rt.ol); first | assumption | exact cell_kp (by assumption) (by assumption)) | ((with_reducible apply Rt.ckR); focus ((repeat (first | (with_reducible (first | refine Rt.fin ?_ | refine Rt.tL ?_ | refine Rt.tI ?_ | refine Rt.tB ?_ | refine Rt.tS ?_ | refine Rt.tP ?_ | refine Rt.tD ?_ | refine Rt.tM ?_ | refine Rt.tC ?_ | refine Rt.tN ?_ | refine Rt.tA ?_ | refine Rt.tG ?_ | refine Rt.tF ?_ | refine Rt.os ?_ | refine Rt.clS ?_ | refine Rt.jmN ?_ | refine Rt.jbN ?_ | refine Rt.jbE ?_)) | ((with_reducible (first | apply Rt.ld0 | apply Rt.ld1 | apply Rt.ld2 | apply Rt.ld3 | apply Rt.ld4 | apply Rt.ld5)); first | assumption | exact Lc.kp (by assumption) (by assumption)) | ((with_reducible apply Rt.ol); first | assumption | exact cell_kp (by assumption) (by assumption)))); exact Rt.some' rfl))))
  refine Rt.cI (CheckOps_spec (hx.kp k1) hn) fun w2 k2 => ?_
  have k12 := k1.tr k2
  unfold bytesB
  refine Rt.cN (fun h => ?_) fun h => ?_
  · obtain ⟨c1, c2, c3⟩ := checkC_ok.1 h
    rw [if_neg (by simpa using h)]
    (repeat (first | (with_reducible (first | refine Rt.fin ?_ | refine Rt.tL ?_ | refine Rt.tI ?_ | refine Rt.tB ?_ | refine Rt.tS ?_ | refine Rt.tP ?_ | refine Rt.tD ?_ | refine Rt.tM ?_ | refine Rt.tC ?_ | refine Rt.tN ?_ | refine Rt.tA ?_ | refine Rt.tG ?_ | refine Rt.tF ?_ | refine Rt.os ?_ | refine Rt.clS ?_ | refine Rt.jmN ?_ | refine Rt.jbN ?_ | refine Rt.jbE ?_)) | ((with_reducible (first | apply Rt.ld0 | apply Rt.ld1 | apply Rt.ld2 | apply Rt.ld3 | apply Rt.ld4 | apply Rt.ld5)); first | assumption | exact Lc.kp (by assumption) (by assumption)) | ((with_reducible apply Rt.ol); first | assumption | exact cell_kp (by assumption) (by assumption)) | ((with_reducible apply Rt.ckR); focus ((repeat (first | (with_reducible (first | refine Rt.fin ?_ | refine Rt.tL ?_ | refine Rt.tI ?_ | refine Rt.tB ?_ | refine Rt.tS ?_ | refine Rt.tP ?_ | refine Rt.tD ?_ | refine Rt.tM ?_ | refine Rt.tC ?_ | refine Rt.tN ?_ | refine Rt.tA ?_ | refine Rt.tG ?_ | refine Rt.tF ?_ | refine Rt.os ?_ | refine Rt.clS ?_ | refine Rt.jmN ?_ | refine Rt.jbN ?_ | refine Rt.jbE ?_)) | ((with_reducible (first | apply Rt.ld0 | apply Rt.ld1 | apply Rt.ld2 | apply Rt.ld3 | apply Rt.ld4 | apply Rt.ld5)); first | assumption | exact Lc.kp (by assumption) (by assumption)) | ((with_reducible apply Rt.ol); first | assumption | exact cell_kp (by assumption) (by assumption)))); exact Rt.some' rfl))))
    refine Rt.cBo (Rnumbered_spec hs (by omega) (by omega)) fun b w3 hb k3 => ?_
    have k13 := k12.tr k3
    have m23 := k2.tr k3
    cases b with
    | false =>
      rw [hxl, if_neg (fun h' => by simpa using hb.2 h')]
      exact Rt.cT rfl (Rt.endE rfl (Own.nil _ _) k13)
    | true =>
      rw [hxl, if_pos (hb.1 rfl)]
      refine Rt.cF rfl ?_
      have m23' := m23.dr
      have k13' := k13.dr
      (repeat (first | (with_reducible (first | refine Rt.fin ?_ | refine Rt.tL ?_ | refine Rt.tI ?_ | refine Rt.tB ?_ | refine Rt.tS ?_ | refine Rt.tP ?_ | refine Rt.tD ?_ | refine Rt.tM ?_ | refine Rt.tC ?_ | refine Rt.tN ?_ | refine Rt.tA ?_ | refine Rt.tG ?_ | refine Rt.tF ?_ | refine Rt.os ?_ | refine Rt.clS ?_ | refine Rt.jmN ?_ | refine Rt.jbN ?_ | refine Rt.jbE ?_)) | ((with_reducible (first | apply Rt.ld0 | apply Rt.ld1 | apply Rt.ld2 | apply Rt.ld3 | apply Rt.ld4 | apply Rt.ld5)); first | assumption | exact Lc.kp (by assumption) (by assumption)) | ((with_reducible apply Rt.ol); first | assumption | exact cell_kp (by assumption) (by assumption)) | ((with_reducible apply Rt.ckR); focus ((repeat (first | (with_reducible (first | refine Rt.fin ?_ | refine Rt.tL ?_ | refine Rt.tI ?_ | refine Rt.tB ?_ | refine Rt.tS ?_ | refine Rt.tP ?_ | refine Rt.tD ?_ | refine Rt.tM ?_ | refine Rt.tC ?_ | refine Rt.tN ?_ | refine Rt.tA ?_ | refine Rt.tG ?_ | refine Rt.tF ?_ | refine Rt.os ?_ | refine Rt.clS ?_ | refine Rt.jmN ?_ | refine Rt.jbN ?_ | refine Rt.jbE ?_)) | ((with_reducible (first | apply Rt.ld0 | apply Rt.ld1 | apply Rt.ld2 | apply Rt.ld3 | apply Rt.ld4 | apply Rt.ld5)); first | assumption | exact Lc.kp (by assumption) (by assumption)) | ((with_reducible apply Rt.ol); first | assumption | exact cell_kp (by assumption) (by assumption)))); exact Rt.some' rfl))))
      refine Rt.cO (Low_spec (xs := []) (mm := 8) (nilB _) hs (by decide) (by simp) (by omega)) fun D f w4 o4 k4 => ?_
      have m24 := m23'.tr k4
      have k14 := k13'.tr k4
      (repeat (first | (with_reducible (first | refine Rt.fin ?_ | refine Rt.tL ?_ | refine Rt.tI ?_ | refine Rt.tB ?_ | refine Rt.tS ?_ | refine Rt.tP ?_ | refine Rt.tD ?_ | refine Rt.tM ?_ | refine Rt.tC ?_ | refine Rt.tN ?_ | refine Rt.tA ?_ | refine Rt.tG ?_ | refine Rt.tF ?_ | refine Rt.os ?_ | refine Rt.clS ?_ | refine Rt.jmN ?_ | refine Rt.jbN ?_ | refine Rt.jbE ?_)) | ((with_reducible (first | apply Rt.ld0 | apply Rt.ld1 | apply Rt.ld2 | apply Rt.ld3 | apply Rt.ld4 | apply Rt.ld5)); first | assumption | exact Lc.kp (by assumption) (by assumption)) | ((with_reducible apply Rt.ol); first | assumption | exact cell_kp (by assumption) (by assumption)) | ((with_reducible apply Rt.ckR); focus ((repeat (first | (with_reducible (first | refine Rt.fin ?_ | refine Rt.tL ?_ | refine Rt.tI ?_ | refine Rt.tB ?_ | refine Rt.tS ?_ | refine Rt.tP ?_ | refine Rt.tD ?_ | refine Rt.tM ?_ | refine Rt.tC ?_ | refine Rt.tN ?_ | refine Rt.tA ?_ | refine Rt.tG ?_ | refine Rt.tF ?_ | refine Rt.os ?_ | refine Rt.clS ?_ | refine Rt.jmN ?_ | refine Rt.jbN ?_ | refine Rt.jbE ?_)) | ((with_reducible (first | apply Rt.ld0 | apply Rt.ld1 | apply Rt.ld2 | apply Rt.ld3 | apply Rt.ld4 | apply Rt.ld5)); first | assumption | exact Lc.kp (by assumption) (by assumption)) | ((with_reducible apply Rt.ol); first | assumption | exact cell_kp (by assumption) (by assumption)))); exact Rt.some' rfl))))
      rw [u64_in (l : Int) (by omega)]
      have b4 := o4.bv (fun z hz => by rw [List.nil_append] at hz; exact lowB_wf _ _ z hz)
      refine Rt.cO (Low_spec (mm := 4) (v := (l : Int)) b4 (by omega) (by decide) (by simp [lowB_len]) (by omega)) fun E g w5 o5 k5 => ?_
      have m25 := m24.tr k5
      have k15 := k14.tr k5
      have hlc := l1.kp m25
      have hsz := k4.size
      have hsz1 := m23'.size
      have e0 : ([] ++ lowB 8 s ++ lowB 4 (l : Int) ++ bodyB (List.take 0 xs)) = [] ++ lowB 8 s ++ lowB 4 (l : Int) := by simp [bodyB]
      (repeat (first | (with_reducible (first | refine Rt.fin ?_ | refine Rt.tL ?_ | refine Rt.tI ?_ | refine Rt.tB ?_ | refine Rt.tS ?_ | refine Rt.tP ?_ | refine Rt.tD ?_ | refine Rt.tM ?_ | refine Rt.tC ?_ | refine Rt.tN ?_ | refine Rt.tA ?_ | refine Rt.tG ?_ | refine Rt.tF ?_ | refine Rt.os ?_ | refine Rt.clS ?_ | refine Rt.jmN ?_ | refine Rt.jbN ?_ | refine Rt.jbE ?_)) | ((with_reducible (first | apply Rt.ld0 | apply Rt.ld1 | apply Rt.ld2 | apply Rt.ld3 | apply Rt.ld4 | apply Rt.ld5)); first | assumption | exact Lc.kp (by assumption) (by assumption)) | ((with_reducible apply Rt.ol); first | assumption | exact cell_kp (by assumption) (by assumption)) | ((with_reducible apply Rt.ckR); focus ((repeat (first | (with_reducible (first | refine Rt.fin ?_ | refine Rt.tL ?_ | refine Rt.tI ?_ | refine Rt.tB ?_ | refine Rt.tS ?_ | refine Rt.tP ?_ | refine Rt.tD ?_ | refine Rt.tM ?_ | refine Rt.tC ?_ | refine Rt.tN ?_ | refine Rt.tA ?_ | refine Rt.tG ?_ | refine Rt.tF ?_ | refine Rt.os ?_ | refine Rt.clS ?_ | refine Rt.jmN ?_ | refine Rt.jbN ?_ | refine Rt.jbE ?_)) | ((with_reducible (first | apply Rt.ld0 | apply Rt.ld1 | apply Rt.ld2 | apply Rt.ld3 | apply Rt.ld4 | apply Rt.ld5)); first | assumption | exact Lc.kp (by assumption) (by assumption)) | ((with_reducible apply Rt.ol); first | assumption | exact cell_kp (by assumption) (by assumption)))); exact Rt.some' rfl))))
      have h0 := RBytes_l0 (n := n) (w0 := w) (b := w.heap.size) (base := w4.heap.size) (by omega) (by omega) hx c3 (by omega) (h0 := [] ++ lowB 8 s ++ lowB 4 l) (by simp [lowB_len]) hn l 0 n E g w5 (by omega) (by omega) k15 hlc k5.size (by rw [e0]; exact o5)
      rw [e0] at h0
      refine Rt.jb (Rt.mono h0 ?_)
      rintro ⟨ex, vs, w6⟩ ⟨h1, F, p, h2, h3, h4⟩
      dsimp only at h1 h2 h3 h4
      subst h1 h2
      refine .inl ⟨.inr rfl, ?_⟩
      (repeat (first | (with_reducible (first | refine Rt.fin ?_ | refine Rt.tL ?_ | refine Rt.tI ?_ | refine Rt.tB ?_ | refine Rt.tS ?_ | refine Rt.tP ?_ | refine Rt.tD ?_ | refine Rt.tM ?_ | refine Rt.tC ?_ | refine Rt.tN ?_ | refine Rt.tA ?_ | refine Rt.tG ?_ | refine Rt.tF ?_ | refine Rt.os ?_ | refine Rt.clS ?_ | refine Rt.jmN ?_ | refine Rt.jbN ?_ | refine Rt.jbE ?_)) | ((with_reducible (first | apply Rt.ld0 | apply Rt.ld1 | apply Rt.ld2 | apply Rt.ld3 | apply Rt.ld4 | apply Rt.ld5)); first | assumption | exact Lc.kp (by assumption) (by assumption)) | ((with_reducible apply Rt.ol); first | assumption | exact cell_kp (by assumption) (by assumption)) | ((with_reducible apply Rt.ckR); focus ((repeat (first | (with_reducible (first | refine Rt.fin ?_ | refine Rt.tL ?_ | refine Rt.tI ?_ | refine Rt.tB ?_ | refine Rt.tS ?_ | refine Rt.tP ?_ | refine Rt.tD ?_ | refine Rt.tM ?_ | refine Rt.tC ?_ | refine Rt.tN ?_ | refine Rt.tA ?_ | refine Rt.tG ?_ | refine Rt.tF ?_ | refine Rt.os ?_ | refine Rt.clS ?_ | refine Rt.jmN ?_ | refine Rt.jbN ?_ | refine Rt.jbE ?_)) | ((with_reducible (first | apply Rt.ld0 | apply Rt.ld1 | apply Rt.ld2 | apply Rt.ld3 | apply Rt.ld4 | apply Rt.ld5)); first | assumption | exact Lc.kp (by assumption) (by assumption)) | ((with_reducible apply Rt.ol); first | assumption | exact cell_kp (by assumption) (by assumption)))); exact Rt.some' rfl))))
      exact Rt.endE (by rw [encB, hxl]; rfl) (h3.mono (by omega)) h4
  · rw [if_pos h]
    exact Rt.endE rfl (Own.nil _ _) k12
end
end Go.Proofs.YtdcdgmiojlldaaaDoor.Ba
/- Batches: how they are read. -/
namespace Go.Proofs.YtdcdgmiojlldaaaDoor.Ba
open Go Big Go.RowKit Go.IntWalk Var Low Par
set_option linter.unusedVariables false
set_option linter.unusedSimpArgs false
instance : Inhabited OpD := ⟨⟨0, [], []⟩⟩
def fieldP (least most : Int) : Pa (List Int) := bindP numP fun n => if n < least ∨ n > most then failP 2 else takeP n.toNat
def opP : Pa OpD := bindP (takeP 1) fun b => if b.getD 0 0 > 1 then failP 2 else bindP (fieldP 1 256) fun key => if b.getD 0 0 = 1 then bindP (fieldP 0 4096) fun v => retP ⟨1, key, v⟩ else retP ⟨b.getD 0 0, key, []⟩
def opsP : Nat → Pa (List OpD)
  | 0 => retP []
  | n + 1 => bindP opP fun o => bindP (opsP n) fun l => retP (o :: l)
open Classical in
noncomputable def batchP : Pa (Int × List OpD) := bindP (takeP 8) fun a => bindP (takeP 4) fun b => if le b < 1 ∨ le b > 100 ∨ ¬numC (le a) (le b).toNat then failP 2 else bindP (opsP (le b).toNat) fun l => retP (le a, l)
abbrev Rd (w : World) (p : Nat) (A : Option Addr) (l c : Nat) (i : Nat) (e : Int) : Prop := Lc w p [.slice A l c, .int .i64 (i : Int), .int .i64 e]
section
variable {α : Type} {Q : α → Prop} {n : Nat} {w w0 : World} {A B C : Option Addr} {l c m d p i : Nat} {k e : Int} {x : OpD} {xs ys : List OpD} {bs zs : List Int}
theorem take_spec (hr : Rd w p A l c i e) (hb : Bv .u8 w0 A l c zs) (hi : i ≤ l) (hm : m ≤ 2 ^ 40) (hl : l ≤ 2 ^ 40) : Rt (batch_reader_take n [.pointer (some ⟨p, 0, none⟩), .int .i64 (m : Int)] w) fun r => ∃ B m' c' w' i' e', r = ([.slice B m' c'], w') ∧ Rd w' p A l c i' e' ∧ i' ≤ l ∧ Gx (fun k => k = p) w w' ∧ Bv .u8 w0 B m' c' (if e = 0 then (takeP m zs i).2.1 else []) ∧
    (e ≠ 0 → e' = e) ∧ (e = 0 → e' = (takeP m zs i).1 ∧ (e' = 0 → i' = (takeP m zs i).2.2)) := by
  have hzl := hb.len
  rw [batch_reader_take_eq]
  refine Rt.fin (Rt.jm (Rt.mono (Q' := fun r => r.ex = .norm ∧ r.vals = [.pointer (some ⟨p, 0, none⟩), .int .i64 (m : Int)] ∧ Gx (fun k => k = p) w r.w ∧ Rd r.w p A l c i (if e = 0 ∧ l < i + m then 4 else e)) ?_ ?_))
  · (repeat (first | (with_reducible (first | refine Rt.fin ?_ | refine Rt.tL ?_ | refine Rt.tI ?_ | refine Rt.tB ?_ | refine Rt.tS ?_ | refine Rt.tP ?_ | refine Rt.tD ?_ | refine Rt.tM ?_ | refine Rt.tC ?_ | refine Rt.tN ?_ | refine Rt.tA ?_ | refine Rt.tG ?_ | refine Rt.tF ?_ | refine Rt.os ?_ | refine Rt.clS ?_ | refine Rt.jmN ?_ | refine Rt.jbN ?_ | refine Rt.jbE ?_)) | ((with_reducible (first | apply Rt.ld0 | apply Rt.ld1 | apply Rt.ld2 | apply Rt.ld3 | apply Rt.ld4 | apply Rt.ld5)); first | assumption | exact Lc.kp (by assumption) (by assumption)) | ((with_reducible apply Rt.ol); first | assumption | exact cell_kp (by assumption) (by assumption)) | ((with_reducible apply Rt.ckR); focus ((repeat (first | (with_reducible (first | refine Rt.fin ?_ | refine Rt.tL ?_ | refine Rt.tI ?_ | refine Rt.tB ?_ | refine Rt.tS ?_ | refine Rt.tP ?_ | refine Rt.tD ?_ | refine Rt.tM ?_ | refine Rt.tC ?_ | refine Rt.tN ?_ | refine Rt.tA ?_ | refine Rt.tG ?_ | refine Rt.tF ?_ | refine Rt.os ?_ | refine Rt.clS ?_ | refine Rt.jmN ?_ | refine Rt.jbN ?_ | refine Rt.jbE ?_)) | ((with_reducible (first | apply Rt.ld0 | apply Rt.ld1 | apply Rt.ld2 | apply Rt.ld3 | apply Rt.ld4 | apply Rt.ld5)); first | assumption | exact Lc.kp (by assumption) (by assumption)) | ((with_reducible apply Rt.ol); first | assumption | exact cell_kp (by assumption) (by assumption)))); exact Rt.some' rfl))))
    refine Rt.cQ (fun he => ?_) fun he => ?_
    · (repeat (first | (with_reducible (first | refine Rt.fin ?_ | refine Rt.tL ?_ | refine Rt.tI ?_ | refine Rt.tB ?_ | refine Rt.tS ?_ | refine Rt.tP ?_ | refine Rt.tD ?_ | refine Rt.tM ?_ | refine Rt.tC ?_ | refine Rt.tN ?_ | refine Rt.tA ?_ | refine Rt.tG ?_ | refine Rt.tF ?_ | refine Rt.os ?_ | refine Rt.clS ?_ | refine Rt.jmN ?_ | refine Rt.jbN ?_ | refine Rt.jbE ?_)) | ((with_reducible (first | apply Rt.ld0 | apply Rt.ld1 | apply Rt.ld2 | apply Rt.ld3 | apply Rt.ld4 | apply Rt.ld5)); first | assumption | exact Lc.kp (by assumption) (by assumption)) | ((with_reducible apply Rt.ol); first | assumption | exact cell_kp (by assumption) (by assumption)) | ((with_reducible apply Rt.ckR); focus ((repeat (first | (with_reducible (first | refine Rt.fin ?_ | refine Rt.tL ?_ | refine Rt.tI ?_ | refine Rt.tB ?_ | refine Rt.tS ?_ | refine Rt.tP ?_ | refine Rt.tD ?_ | refine Rt.tM ?_ | refine Rt.tC ?_ | refine Rt.tN ?_ | refine Rt.tA ?_ | refine Rt.tG ?_ | refine Rt.tF ?_ | refine Rt.os ?_ | refine Rt.clS ?_ | refine Rt.jmN ?_ | refine Rt.jbN ?_ | refine Rt.jbE ?_)) | ((with_reducible (first | apply Rt.ld0 | apply Rt.ld1 | apply Rt.ld2 | apply Rt.ld3 | apply Rt.ld4 | apply Rt.ld5)); first | assumption | exact Lc.kp (by assumption) (by assumption)) | ((with_reducible apply Rt.ol); first | assumption | exact cell_kp (by assumption) (by assumption)))); exact Rt.some' rfl))))
      rw [i64_in _ (by omega)]
      refine Rt.cD (fun h => ?_) fun h => ?_
      · (repeat (first | (with_reducible (first | refine Rt.fin ?_ | refine Rt.tL ?_ | refine Rt.tI ?_ | refine Rt.tB ?_ | refine Rt.tS ?_ | refine Rt.tP ?_ | refine Rt.tD ?_ | refine Rt.tM ?_ | refine Rt.tC ?_ | refine Rt.tN ?_ | refine Rt.tA ?_ | refine Rt.tG ?_ | refine Rt.tF ?_ | refine Rt.os ?_ | refine Rt.clS ?_ | refine Rt.jmN ?_ | refine Rt.jbN ?_ | refine Rt.jbE ?_)) | ((with_reducible (first | apply Rt.ld0 | apply Rt.ld1 | apply Rt.ld2 | apply Rt.ld3 | apply Rt.ld4 | apply Rt.ld5)); first | assumption | exact Lc.kp (by assumption) (by assumption)) | ((with_reducible apply Rt.ol); first | assumption | exact cell_kp (by assumption) (by assumption)) | ((with_reducible apply Rt.ckR); focus ((repeat (first | (with_reducible (first | refine Rt.fin ?_ | refine Rt.tL ?_ | refine Rt.tI ?_ | refine Rt.tB ?_ | refine Rt.tS ?_ | refine Rt.tP ?_ | refine Rt.tD ?_ | refine Rt.tM ?_ | refine Rt.tC ?_ | refine Rt.tN ?_ | refine Rt.tA ?_ | refine Rt.tG ?_ | refine Rt.tF ?_ | refine Rt.os ?_ | refine Rt.clS ?_ | refine Rt.jmN ?_ | refine Rt.jbN ?_ | refine Rt.jbE ?_)) | ((with_reducible (first | apply Rt.ld0 | apply Rt.ld1 | apply Rt.ld2 | apply Rt.ld3 | apply Rt.ld4 | apply Rt.ld5)); first | assumption | exact Lc.kp (by assumption) (by assumption)) | ((with_reducible apply Rt.ol); first | assumption | exact cell_kp (by assumption) (by assumption)))); exact Rt.some' rfl))))
        refine Rt.st2 (w := w.drew) hr fun w1 l1 g1 => Rt.some' ⟨rfl, rfl, (Gx.rfl' _ w).dr.tr g1, ?_⟩
        rw [if_pos ⟨he, by omega⟩]; exact l1
      · exact Rt.some' ⟨rfl, rfl, (Gx.rfl' _ w).dr, by rw [if_neg (by omega)]; exact hr⟩
    · exact Rt.some' ⟨rfl, rfl, (Gx.rfl' _ w).dr, by rw [if_neg (by omega)]; exact hr⟩
  · rintro ⟨ex, vs, w1⟩ ⟨h1, h2, h3, h4⟩
    dsimp only at h1 h2 h3 h4
    subst h1 h2
    refine ⟨rfl, ?_⟩
    dsimp only
    generalize he' : (if e = 0 ∧ l < i + m then 4 else e) = e' at h4
    (repeat (first | (with_reducible (first | refine Rt.fin ?_ | refine Rt.tL ?_ | refine Rt.tI ?_ | refine Rt.tB ?_ | refine Rt.tS ?_ | refine Rt.tP ?_ | refine Rt.tD ?_ | refine Rt.tM ?_ | refine Rt.tC ?_ | refine Rt.tN ?_ | refine Rt.tA ?_ | refine Rt.tG ?_ | refine Rt.tF ?_ | refine Rt.os ?_ | refine Rt.clS ?_ | refine Rt.jmN ?_ | refine Rt.jbN ?_ | refine Rt.jbE ?_)) | ((with_reducible (first | apply Rt.ld0 | apply Rt.ld1 | apply Rt.ld2 | apply Rt.ld3 | apply Rt.ld4 | apply Rt.ld5)); first | assumption | exact Lc.kp (by assumption) (by assumption)) | ((with_reducible apply Rt.ol); first | assumption | exact cell_kp (by assumption) (by assumption)) | ((with_reducible apply Rt.ckR); focus ((repeat (first | (with_reducible (first | refine Rt.fin ?_ | refine Rt.tL ?_ | refine Rt.tI ?_ | refine Rt.tB ?_ | refine Rt.tS ?_ | refine Rt.tP ?_ | refine Rt.tD ?_ | refine Rt.tM ?_ | refine Rt.tC ?_ | refine Rt.tN ?_ | refine Rt.tA ?_ | refine Rt.tG ?_ | refine Rt.tF ?_ | refine Rt.os ?_ | refine Rt.clS ?_ | refine Rt.jmN ?_ | refine Rt.jbN ?_ | refine Rt.jbE ?_)) | ((with_reducible (first | apply Rt.ld0 | apply Rt.ld1 | apply Rt.ld2 | apply Rt.ld3 | apply Rt.ld4 | apply Rt.ld5)); first | assumption | exact Lc.kp (by assumption) (by assumption)) | ((with_reducible apply Rt.ol); first | assumption | exact cell_kp (by assumption) (by assumption)))); exact Rt.some' rfl))))
    refine Rt.cN (fun h0 => ?_) fun h0 => ?_
    · have he : e = 0 := by
        by_cases h : e = 0 ∧ l < i + m
        · rw [if_pos h] at he'; omega
        · rw [if_neg h] at he'; omega
      have hlt : ¬ l < i + m := fun h => by rw [if_pos ⟨he, h⟩] at he'; omega
      subst he
      (repeat (first | (with_reducible (first | refine Rt.fin ?_ | refine Rt.tL ?_ | refine Rt.tI ?_ | refine Rt.tB ?_ | refine Rt.tS ?_ | refine Rt.tP ?_ | refine Rt.tD ?_ | refine Rt.tM ?_ | refine Rt.tC ?_ | refine Rt.tN ?_ | refine Rt.tA ?_ | refine Rt.tG ?_ | refine Rt.tF ?_ | refine Rt.os ?_ | refine Rt.clS ?_ | refine Rt.jmN ?_ | refine Rt.jbN ?_ | refine Rt.jbE ?_)) | ((with_reducible (first | apply Rt.ld0 | apply Rt.ld1 | apply Rt.ld2 | apply Rt.ld3 | apply Rt.ld4 | apply Rt.ld5)); first | assumption | exact Lc.kp (by assumption) (by assumption)) | ((with_reducible apply Rt.ol); first | assumption | exact cell_kp (by assumption) (by assumption)) | ((with_reducible apply Rt.ckR); focus ((repeat (first | (with_reducible (first | refine Rt.fin ?_ | refine Rt.tL ?_ | refine Rt.tI ?_ | refine Rt.tB ?_ | refine Rt.tS ?_ | refine Rt.tP ?_ | refine Rt.tD ?_ | refine Rt.tM ?_ | refine Rt.tC ?_ | refine Rt.tN ?_ | refine Rt.tA ?_ | refine Rt.tG ?_ | refine Rt.tF ?_ | refine Rt.os ?_ | refine Rt.clS ?_ | refine Rt.jmN ?_ | refine Rt.jbN ?_ | refine Rt.jbE ?_)) | ((with_reducible (first | apply Rt.ld0 | apply Rt.ld1 | apply Rt.ld2 | apply Rt.ld3 | apply Rt.ld4 | apply Rt.ld5)); first | assumption | exact Lc.kp (by assumption) (by assumption)) | ((with_reducible apply Rt.ol); first | assumption | exact cell_kp (by assumption) (by assumption)))); exact Rt.some' rfl))))
      rw [i64_in _ (by omega)]
      refine Rt.st1 h4 fun w2 l2 g2 => ?_
      have l2' : Lc w2.drew p [.slice A l c, .int .i64 ((i : Int) + m), .int .i64 e'] := l2
      (repeat (first | (with_reducible (first | refine Rt.fin ?_ | refine Rt.tL ?_ | refine Rt.tI ?_ | refine Rt.tB ?_ | refine Rt.tS ?_ | refine Rt.tP ?_ | refine Rt.tD ?_ | refine Rt.tM ?_ | refine Rt.tC ?_ | refine Rt.tN ?_ | refine Rt.tA ?_ | refine Rt.tG ?_ | refine Rt.tF ?_ | refine Rt.os ?_ | refine Rt.clS ?_ | refine Rt.jmN ?_ | refine Rt.jbN ?_ | refine Rt.jbE ?_)) | ((with_reducible (first | apply Rt.ld0 | apply Rt.ld1 | apply Rt.ld2 | apply Rt.ld3 | apply Rt.ld4 | apply Rt.ld5)); first | assumption | exact Lc.kp (by assumption) (by assumption)) | ((with_reducible apply Rt.ol); first | assumption | exact cell_kp (by assumption) (by assumption)) | ((with_reducible apply Rt.ckR); focus ((repeat (first | (with_reducible (first | refine Rt.fin ?_ | refine Rt.tL ?_ | refine Rt.tI ?_ | refine Rt.tB ?_ | refine Rt.tS ?_ | refine Rt.tP ?_ | refine Rt.tD ?_ | refine Rt.tM ?_ | refine Rt.tC ?_ | refine Rt.tN ?_ | refine Rt.tA ?_ | refine Rt.tG ?_ | refine Rt.tF ?_ | refine Rt.os ?_ | refine Rt.clS ?_ | refine Rt.jmN ?_ | refine Rt.jbN ?_ | refine Rt.jbE ?_)) | ((with_reducible (first | apply Rt.ld0 | apply Rt.ld1 | apply Rt.ld2 | apply Rt.ld3 | apply Rt.ld4 | apply Rt.ld5)); first | assumption | exact Lc.kp (by assumption) (by assumption)) | ((with_reducible apply Rt.ol); first | assumption | exact cell_kp (by assumption) (by assumption)))); exact Rt.some' rfl))))
      rw [i64_in ((i : Int) + m - m) (by omega)]
      refine Rt.cut hb (by omega) (by omega) (by omega) fun B hB => ?_
      have e1 : ((i : Int) + m).toNat - ((i : Int) + m - m).toNat = m := by omega
      have e2 : (zs.take ((i : Int) + m).toNat).drop ((i : Int) + m - m).toNat = slc zs i m := by
        rw [show ((i : Int) + m).toNat = i + m by omega, show ((i : Int) + m - m).toNat = i by omega, List.drop_take]; simp [slc]
      have et : takeP m zs i = (0, slc zs i m, i + m) := by unfold takeP; rw [if_neg (by omega)]
      rw [e1, e2] at hB
      rw [e1]
      refine Rt.some' ⟨rfl, B, m, _, _, i + m, e', rfl, ?_, by omega, (h3.tr g2).dr, by rw [if_pos rfl, et]; exact hB, fun h => absurd rfl h, fun _ => ?_⟩
      · have : Rd w2.drew p A l c (i + m) e' := by
          show Lc w2.drew p [.slice A l c, .int .i64 ((i + m : Nat) : Int), .int .i64 e']
          rw [show ((i + m : Nat) : Int) = (i : Int) + m by omega]; exact l2'
        exact this
      · rw [et]; exact ⟨h0, fun _ => rfl⟩
    · refine Rt.some' ⟨rfl, none, 0, 0, w1, i, e', rfl, h4, hi, h3, ?_, ?_, ?_⟩
      · by_cases h : e = 0
        · subst h
          have hlt : l < i + m := by
            by_cases h : l < i + m
            · exact h
            · rw [if_neg (by omega)] at he'; omega
          rw [if_pos rfl]
          unfold takeP
          rw [if_pos (by omega)]; exact nilB _
        · rw [if_neg h]; exact nilB _
      · intro h; rw [if_neg (by omega)] at he'; exact he'.symm
      · intro h
        subst h
        by_cases h : l < i + m
        · rw [if_pos ⟨rfl, h⟩] at he'
          unfold takeP
          rw [if_pos (by omega)]
          exact ⟨he'.symm, fun h => by omega⟩
        · rw [if_neg (by omega)] at he'; omega
theorem le_snoc : ∀ {zs : List Int} {i : Nat}, i < zs.length → le (zs.take (i + 1)) = le (zs.take i) + zs.getD i 0 * 256 ^ i
  | [], i, h => by simp at h
  | z :: zs, 0, h => by simp [le]
  | z :: zs, i + 1, h => by
    rw [List.take_succ_cons, List.take_succ_cons, le, le, le_snoc (by simpa using h), Int.pow_succ]
    simp only [List.getD_cons_succ]
    rw [Int.mul_add, Int.add_assoc, ← Int.mul_assoc, ← Int.mul_assoc, Int.mul_comm 256, Int.mul_assoc, Int.mul_assoc, Int.mul_comm 256, Int.mul_assoc]
theorem number_l0 (hb : Bv .u8 w B m d bs) (hm : m ≤ 8) : ∀ (q i j : Nat), i + q = m → q < j → Rt (batch_reader_number.l0 n j (le (bs.take i)) B m d (m : Int) (i : Int) w) fun r => r = ⟨.exit 0, [.int .u64 (le bs)], w⟩ := by
  have hl := hb.len
  intro q
  induction q with
  | zero =>
    intro i j hi hj
    obtain ⟨j, rfl⟩ : ∃ j', j = j' + 1 := ⟨j - 1, by omega⟩
    rw [batch_reader_number.l0_succ]
    exact Rt.cDF (by omega) (Rt.some' (by rw [List.take_of_length_le (by omega)]))
  | succ q ih =>
    intro i j hi hj
    obtain ⟨j, rfl⟩ : ∃ j', j = j' + 1 := ⟨j - 1, by omega⟩
    rw [batch_reader_number.l0_succ]
    refine Rt.cDT (by omega) (Rt.ix hb.sl (by omega) (by omega) ?_)
    rw [i64_in (8 * (i : Int)) (by omega), Int.toNat_natCast]
    refine Rt.iF (by omega) ?_
    have hx := byte_at hb.rng (i := i) (by omega)
    have hle := le_nonneg (xs := bs.take i) fun z hz => hb.rng z (List.mem_of_mem_take hz)
    have hli : (bs.take i).length = i := by simp; omega
    rw [hli] at hle
    have e1 : min (Int.toNat (8 * (i : Int))) 64 = 8 * i := by omega
    have e2 : (2 : Int) ^ (8 * i) = 256 ^ i := by rw [Int.pow_mul]; rfl
    have hp : ∀ a : Nat, a < 8 → (256 : Int) ^ a * 256 ≤ 2 ^ 64 := by decide
    have hp := hp i (by omega)
    have hp0 : (0 : Int) < 256 ^ i := Int.pow_pos (by decide)
    have hm1 : bs.getD i 0 * 256 ^ i ≤ 255 * 256 ^ i := Int.mul_le_mul_of_nonneg_right (by omega) (by omega)
    have hm0 : 0 ≤ bs.getD i 0 * 256 ^ i := Int.mul_nonneg hx.1 (by omega)
    have ho := (orI (x := le (bs.take i)) (y := bs.getD i 0) (8 * i) hle.1 (by rw [e2]; exact hle.2) hx.1 (by rw [e2]; omega)).1
    rw [e2] at ho
    rw [e1, e2, u64_in (bs.getD i 0) (by omega), u64_in (bs.getD i 0 * 256 ^ i) (by omega), ho, ← le_snoc (by omega), i64_in _ (by omega), show ((i : Int) + 1) = ((i + 1 : Nat) : Int) by omega]
    exact ih (i + 1) j (by omega) (by omega)
theorem number_spec (hr : Rd w p A l c i e) (hk : Gx (fun k => k = p) w0 w) (hp : w0.heap.size ≤ p) (hb : Bv .u8 w0 A l c zs) (hi : i ≤ l) (hm : m ≤ 8) (hl : l ≤ 2 ^ 38) (hn : 20 < n) : Rt (batch_reader_number n [.pointer (some ⟨p, 0, none⟩), .int .i64 (m : Int)] w) fun r => ∃ w' i' e', r = ([.int .u64 (le (if e = 0 then (takeP m zs i).2.1 else []))], w') ∧ Rd w' p A l c i' e' ∧ i' ≤ l ∧ Gx (fun k => k = p) w w' ∧
    (e ≠ 0 → e' = e) ∧ (e = 0 → e' = (takeP m zs i).1 ∧ (e' = 0 → i' = (takeP m zs i).2.2)) := by
  rw [batch_reader_number_eq]
  refine Rt.fin (Rt.call (take_spec hr hb hi (by omega) (by omega)) ?_)
  rintro vs w1 ⟨B, m', c', w1', i', e', hr1, h1, h2, h3, h4, h5, h6⟩
  cases hr1
  have hb1 := h4.kp ((hk.tr h3).kp fun j hj => by omega)
  have hml : m' ≤ 8 := by
    have := hb1.len
    by_cases he : e = 0
    · rw [if_pos he] at this
      unfold takeP at this
      split at this <;> simp [slc] at this <;> omega
    · rw [if_neg he] at this; simp at this; omega
  (repeat (first | (with_reducible (first | refine Rt.fin ?_ | refine Rt.tL ?_ | refine Rt.tI ?_ | refine Rt.tB ?_ | refine Rt.tS ?_ | refine Rt.tP ?_ | refine Rt.tD ?_ | refine Rt.tM ?_ | refine Rt.tC ?_ | refine Rt.tN ?_ | refine Rt.tA ?_ | refine Rt.tG ?_ | refine Rt.tF ?_ | refine Rt.os ?_ | refine Rt.clS ?_ | refine Rt.jmN ?_ | refine Rt.jbN ?_ | refine Rt.jbE ?_)) | ((with_reducible (first | apply Rt.ld0 | apply Rt.ld1 | apply Rt.ld2 | apply Rt.ld3 | apply Rt.ld4 | apply Rt.ld5)); first | assumption | exact Lc.kp (by assumption) (by assumption)) | ((with_reducible apply Rt.ol); first | assumption | exact cell_kp (by assumption) (by assumption)) | ((with_reducible apply Rt.ckR); focus ((repeat (first | (with_reducible (first | refine Rt.fin ?_ | refine Rt.tL ?_ | refine Rt.tI ?_ | refine Rt.tB ?_ | refine Rt.tS ?_ | refine Rt.tP ?_ | refine Rt.tD ?_ | refine Rt.tM ?_ | refine Rt.tC ?_ | refine Rt.tN ?_ | refine Rt.tA ?_ | refine Rt.tG ?_ | refine Rt.tF ?_ | refine Rt.os ?_ | refine Rt.clS ?_ | refine Rt.jmN ?_ | refine Rt.jbN ?_ | refine Rt.jbE ?_)) | ((with_reducible (first | apply Rt.ld0 | apply Rt.ld1 | apply Rt.ld2 | apply Rt.ld3 | apply Rt.ld4 | apply Rt.ld5)); first | assumption | exact Lc.kp (by assumption) (by assumption)) | ((with_reducible apply Rt.ol); first | assumption | exact cell_kp (by assumption) (by assumption)))); exact Rt.some' rfl))))
  obtain ⟨_, e0, rfl⟩ := number_l0 (n := n) hb1 hml m' 0 n (by omega) (by omega)
  have e0' : batch_reader_number.l0 n n 0 B m' c' (m' : Int) 0 w1 = _ := e0
  rw [e0']
  (repeat (first | (with_reducible (first | refine Rt.fin ?_ | refine Rt.tL ?_ | refine Rt.tI ?_ | refine Rt.tB ?_ | refine Rt.tS ?_ | refine Rt.tP ?_ | refine Rt.tD ?_ | refine Rt.tM ?_ | refine Rt.tC ?_ | refine Rt.tN ?_ | refine Rt.tA ?_ | refine Rt.tG ?_ | refine Rt.tF ?_ | refine Rt.os ?_ | refine Rt.clS ?_ | refine Rt.jmN ?_ | refine Rt.jbN ?_ | refine Rt.jbE ?_)) | ((with_reducible (first | apply Rt.ld0 | apply Rt.ld1 | apply Rt.ld2 | apply Rt.ld3 | apply Rt.ld4 | apply Rt.ld5)); first | assumption | exact Lc.kp (by assumption) (by assumption)) | ((with_reducible apply Rt.ol); first | assumption | exact cell_kp (by assumption) (by assumption)) | ((with_reducible apply Rt.ckR); focus ((repeat (first | (with_reducible (first | refine Rt.fin ?_ | refine Rt.tL ?_ | refine Rt.tI ?_ | refine Rt.tB ?_ | refine Rt.tS ?_ | refine Rt.tP ?_ | refine Rt.tD ?_ | refine Rt.tM ?_ | refine Rt.tC ?_ | refine Rt.tN ?_ | refine Rt.tA ?_ | refine Rt.tG ?_ | refine Rt.tF ?_ | refine Rt.os ?_ | refine Rt.clS ?_ | refine Rt.jmN ?_ | refine Rt.jbN ?_ | refine Rt.jbE ?_)) | ((with_reducible (first | apply Rt.ld0 | apply Rt.ld1 | apply Rt.ld2 | apply Rt.ld3 | apply Rt.ld4 | apply Rt.ld5)); first | assumption | exact Lc.kp (by assumption) (by assumption)) | ((with_reducible apply Rt.ol); first | assumption | exact cell_kp (by assumption) (by assumption)))); exact Rt.some' rfl))))
  exact Rt.some' ⟨rfl, w1, i', e', rfl, h1, h2, h3, h5, h6⟩
end
end Go.Proofs.YtdcdgmiojlldaaaDoor.Ba
/- Batches: a text, an operation, a batch is read. -/
namespace Go.Proofs.YtdcdgmiojlldaaaDoor.Ba
open Go Big Go.RowKit Go.IntWalk Var Low Par
set_option linter.unusedVariables false
set_option linter.unusedSimpArgs false
section
variable {α : Type} {Q : α → Prop} {n : Nat} {w w0 : World} {A B C : Option Addr} {l c m d p i : Nat} {k e : Int} {x : OpD} {xs ys : List OpD} {bs zs : List Int}
theorem bnil : Bytes [] := fun z hz => by cases hz
theorem getR_err (hb : ∀ z ∈ zs, (Lit.int .u8 z).wf = true) (hi : i ≤ zs.length) : 0 ≤ (getR zs (i : Int)).1 ∧ (getR zs (i : Int)).1 < 2 ^ 64 := by
  by_cases h : (getR zs (i : Int)).2.2 = 0
  · obtain ⟨y, h1, h2, _⟩ := getR_can (u8b hb) h
    rw [h2]; simp only; omega
  · have : ∀ (cs : List Int) (j : Nat) (acc : Int), (gv (i : Int) j acc cs).2.2 ≠ 0 → (gv (i : Int) j acc cs).1 = 0 := by
      intro cs
      induction cs with
      | nil => intro j acc _; rfl
      | cons z cs ih =>
        intro j acc h
        simp only [gv] at h ⊢
        split
        · rfl
        · rename_i hb; rw [if_neg hb] at h
          split
          · rename_i h8; rw [if_pos h8] at h; simp at h
          · rename_i h8; rw [if_neg h8] at h; exact ih _ _ h
    have e : getR zs (i : Int) = gv (i : Int) 0 0 (zs.drop i) := by unfold getR; rw [if_neg (by omega), if_neg (by omega), Int.toNat_natCast]
    rw [e] at h ⊢
    rw [this _ _ _ h]; omega
theorem text_spec (hr : Rd w p A l c i e) (hk : Gx (fun k => k = p) w0 w) (hp : w0.heap.size ≤ p) (hb : Bv .u8 w0 A l c zs) (hi : i ≤ l) (hl : l ≤ 2 ^ 38) (hn : 2 ^ 59 < n) {a b : Int} (ha : 0 ≤ a) (hb' : b ≤ 2 ^ 37) :
    Rt (batch_reader_text n [.pointer (some ⟨p, 0, none⟩), .int .u64 a, .int .u64 b] w) fun r => ∃ B d w' i' e' out, r = ([.slice B (List.length out) d], w') ∧ Rd w' p A l c i' e' ∧ i' ≤ l ∧ Gx (fun k => k = p) w w' ∧ Own .u8 5 w' w.heap.size (.slice B out.length d) out ∧ Bytes out ∧
      (e ≠ 0 → e' = e) ∧ (e = 0 → e' = (fieldP a b zs i).1 ∧ (e' = 0 → i' = (fieldP a b zs i).2.2 ∧ out = (fieldP a b zs i).2.1)) := by
  have hzl := hb.len
  have hpl := hr.lt
  rw [batch_reader_text_eq]
  refine Rt.fin ?_
  (repeat (first | (with_reducible (first | refine Rt.fin ?_ | refine Rt.tL ?_ | refine Rt.tI ?_ | refine Rt.tB ?_ | refine Rt.tS ?_ | refine Rt.tP ?_ | refine Rt.tD ?_ | refine Rt.tM ?_ | refine Rt.tC ?_ | refine Rt.tN ?_ | refine Rt.tA ?_ | refine Rt.tG ?_ | refine Rt.tF ?_ | refine Rt.os ?_ | refine Rt.clS ?_ | refine Rt.jmN ?_ | refine Rt.jbN ?_ | refine Rt.jbE ?_)) | ((with_reducible (first | apply Rt.ld0 | apply Rt.ld1 | apply Rt.ld2 | apply Rt.ld3 | apply Rt.ld4 | apply Rt.ld5)); first | assumption | exact Lc.kp (by assumption) (by assumption)) | ((with_reducible apply Rt.ol); first | assumption | exact cell_kp (by assumption) (by assumption)) | ((with_reducible apply Rt.ckR); focus ((repeat (first | (with_reducible (first | refine Rt.fin ?_ | refine Rt.tL ?_ | refine Rt.tI ?_ | refine Rt.tB ?_ | refine Rt.tS ?_ | refine Rt.tP ?_ | refine Rt.tD ?_ | refine Rt.tM ?_ | refine Rt.tC ?_ | refine Rt.tN ?_ | refine Rt.tA ?_ | refine Rt.tG ?_ | refine Rt.tF ?_ | refine Rt.os ?_ | refine Rt.clS ?_ | refine Rt.jmN ?_ | refine Rt.jbN ?_ | refine Rt.jbE ?_)) | ((with_reducible (first | apply Rt.ld0 | apply Rt.ld1 | apply Rt.ld2 | apply Rt.ld3 | apply Rt.ld4 | apply Rt.ld5)); first | assumption | exact Lc.kp (by assumption) (by assumption)) | ((with_reducible apply Rt.ol); first | assumption | exact cell_kp (by assumption) (by assumption)))); exact Rt.some' rfl))))
  refine Rt.cN (fun he => ?_) fun he => ?_
  · subst he
    have d1 : Gx (fun k => k = p) w w.drew := (Gx.rfl' _ w).dr
    (repeat (first | (with_reducible (first | refine Rt.fin ?_ | refine Rt.tL ?_ | refine Rt.tI ?_ | refine Rt.tB ?_ | refine Rt.tS ?_ | refine Rt.tP ?_ | refine Rt.tD ?_ | refine Rt.tM ?_ | refine Rt.tC ?_ | refine Rt.tN ?_ | refine Rt.tA ?_ | refine Rt.tG ?_ | refine Rt.tF ?_ | refine Rt.os ?_ | refine Rt.clS ?_ | refine Rt.jmN ?_ | refine Rt.jbN ?_ | refine Rt.jbE ?_)) | ((with_reducible (first | apply Rt.ld0 | apply Rt.ld1 | apply Rt.ld2 | apply Rt.ld3 | apply Rt.ld4 | apply Rt.ld5)); first | assumption | exact Lc.kp (by assumption) (by assumption)) | ((with_reducible apply Rt.ol); first | assumption | exact cell_kp (by assumption) (by assumption)) | ((with_reducible apply Rt.ckR); focus ((repeat (first | (with_reducible (first | refine Rt.fin ?_ | refine Rt.tL ?_ | refine Rt.tI ?_ | refine Rt.tB ?_ | refine Rt.tS ?_ | refine Rt.tP ?_ | refine Rt.tD ?_ | refine Rt.tM ?_ | refine Rt.tC ?_ | refine Rt.tN ?_ | refine Rt.tA ?_ | refine Rt.tG ?_ | refine Rt.tF ?_ | refine Rt.os ?_ | refine Rt.clS ?_ | refine Rt.jmN ?_ | refine Rt.jbN ?_ | refine Rt.jbE ?_)) | ((with_reducible (first | apply Rt.ld0 | apply Rt.ld1 | apply Rt.ld2 | apply Rt.ld3 | apply Rt.ld4 | apply Rt.ld5)); first | assumption | exact Lc.kp (by assumption) (by assumption)) | ((with_reducible apply Rt.ol); first | assumption | exact cell_kp (by assumption) (by assumption)))); exact Rt.some' rfl))))
    have hbd : Bv .u8 w.drew A l c zs := hb.kp ((hk.tr d1).kp fun j hj => by omega)
    rw [GetS hbd (by omega) hn, clG]
    have hg0 := getR_err (i := i) hb.rng (by omega)
    have hnum : numP zs i = ((getR zs (i : Int)).2.2, (getR zs (i : Int)).1, (getR zs (i : Int)).2.1.toNat) := rfl
    have hin : (getR zs (i : Int)).2.2 = 0 → i ≤ (getR zs (i : Int)).2.1.toNat ∧ (getR zs (i : Int)).2.1.toNat ≤ l ∧ 0 ≤ (getR zs (i : Int)).2.1 := by
      intro h
      obtain ⟨y, h1, h2, h3, _⟩ := getR_can (u8b hb.rng) h
      rw [h2]; simp only; omega
    generalize hg : getR zs (i : Int) = g at hg0 hnum hin ⊢
    obtain ⟨gn, gt, ge⟩ := g
    simp only at hg0 hnum hin ⊢
    refine Rt.jm (Rt.mono (Q' := fun r => r = ⟨.norm, [.pointer (some ⟨p, 0, none⟩), .int .u64 gn, .int .i64 gt, .int .i64 (if ge = 0 ∧ (gn < a ∨ gn > b) then 2 else ge)], w.drew⟩) ?_ ?_)
    · refine Rt.cQ (fun h0 => Rt.cD (fun h1 => Rt.some' ?_) fun h1 => Rt.cD (fun h2 => Rt.some' ?_) fun h2 => Rt.some' ?_) fun h0 => Rt.some' ?_
      · rw [if_pos ⟨h0, .inl h1⟩]
      · rw [if_pos ⟨h0, .inr h2⟩]
      · rw [if_neg (by omega)]
      · rw [if_neg (by omega)]
    · rintro _ rfl
      refine ⟨rfl, ?_⟩
      dsimp only
      generalize he2 : (if ge = 0 ∧ (gn < a ∨ gn > b) then 2 else ge) = e2
      (repeat (first | (with_reducible (first | refine Rt.fin ?_ | refine Rt.tL ?_ | refine Rt.tI ?_ | refine Rt.tB ?_ | refine Rt.tS ?_ | refine Rt.tP ?_ | refine Rt.tD ?_ | refine Rt.tM ?_ | refine Rt.tC ?_ | refine Rt.tN ?_ | refine Rt.tA ?_ | refine Rt.tG ?_ | refine Rt.tF ?_ | refine Rt.os ?_ | refine Rt.clS ?_ | refine Rt.jmN ?_ | refine Rt.jbN ?_ | refine Rt.jbE ?_)) | ((with_reducible (first | apply Rt.ld0 | apply Rt.ld1 | apply Rt.ld2 | apply Rt.ld3 | apply Rt.ld4 | apply Rt.ld5)); first | assumption | exact Lc.kp (by assumption) (by assumption)) | ((with_reducible apply Rt.ol); first | assumption | exact cell_kp (by assumption) (by assumption)) | ((with_reducible apply Rt.ckR); focus ((repeat (first | (with_reducible (first | refine Rt.fin ?_ | refine Rt.tL ?_ | refine Rt.tI ?_ | refine Rt.tB ?_ | refine Rt.tS ?_ | refine Rt.tP ?_ | refine Rt.tD ?_ | refine Rt.tM ?_ | refine Rt.tC ?_ | refine Rt.tN ?_ | refine Rt.tA ?_ | refine Rt.tG ?_ | refine Rt.tF ?_ | refine Rt.os ?_ | refine Rt.clS ?_ | refine Rt.jmN ?_ | refine Rt.jbN ?_ | refine Rt.jbE ?_)) | ((with_reducible (first | apply Rt.ld0 | apply Rt.ld1 | apply Rt.ld2 | apply Rt.ld3 | apply Rt.ld4 | apply Rt.ld5)); first | assumption | exact Lc.kp (by assumption) (by assumption)) | ((with_reducible apply Rt.ol); first | assumption | exact cell_kp (by assumption) (by assumption)))); exact Rt.some' rfl))))
      have hf : (fieldP a b zs i).1 = e2 ∨ (e2 = 0 ∧ ge = 0 ∧ ¬(gn < a ∨ gn > b)) := by
        unfold fieldP bindP
        rw [hnum]
        simp only
        by_cases h0 : ge = 0
        · rw [if_pos h0]
          by_cases h1 : gn < a ∨ gn > b
          · rw [if_pos ⟨h0, h1⟩] at he2
            left; rw [if_pos h1]; exact he2
          · rw [if_neg (fun h => h1 h.2)] at he2
            right; exact ⟨by omega, h0, h1⟩
        · rw [if_neg (fun h => h0 h.1)] at he2
          left; rw [if_neg h0]; exact he2
      refine Rt.cN (fun h0 => ?_) fun h0 => ?_
      · -- it goes on
        have hge : ge = 0 ∧ ¬(gn < a ∨ gn > b) := by
          by_cases h : ge = 0 ∧ (gn < a ∨ gn > b)
          · rw [if_pos h] at he2; omega
          · rw [if_neg h] at he2; exact ⟨by omega, fun h' => h ⟨by omega, h'⟩⟩
        obtain ⟨hi1, hi2, hi3⟩ := hin hge.1
        (repeat (first | (with_reducible (first | refine Rt.fin ?_ | refine Rt.tL ?_ | refine Rt.tI ?_ | refine Rt.tB ?_ | refine Rt.tS ?_ | refine Rt.tP ?_ | refine Rt.tD ?_ | refine Rt.tM ?_ | refine Rt.tC ?_ | refine Rt.tN ?_ | refine Rt.tA ?_ | refine Rt.tG ?_ | refine Rt.tF ?_ | refine Rt.os ?_ | refine Rt.clS ?_ | refine Rt.jmN ?_ | refine Rt.jbN ?_ | refine Rt.jbE ?_)) | ((with_reducible (first | apply Rt.ld0 | apply Rt.ld1 | apply Rt.ld2 | apply Rt.ld3 | apply Rt.ld4 | apply Rt.ld5)); first | assumption | exact Lc.kp (by assumption) (by assumption)) | ((with_reducible apply Rt.ol); first | assumption | exact cell_kp (by assumption) (by assumption)) | ((with_reducible apply Rt.ckR); focus ((repeat (first | (with_reducible (first | refine Rt.fin ?_ | refine Rt.tL ?_ | refine Rt.tI ?_ | refine Rt.tB ?_ | refine Rt.tS ?_ | refine Rt.tP ?_ | refine Rt.tD ?_ | refine Rt.tM ?_ | refine Rt.tC ?_ | refine Rt.tN ?_ | refine Rt.tA ?_ | refine Rt.tG ?_ | refine Rt.tF ?_ | refine Rt.os ?_ | refine Rt.clS ?_ | refine Rt.jmN ?_ | refine Rt.jbN ?_ | refine Rt.jbE ?_)) | ((with_reducible (first | apply Rt.ld0 | apply Rt.ld1 | apply Rt.ld2 | apply Rt.ld3 | apply Rt.ld4 | apply Rt.ld5)); first | assumption | exact Lc.kp (by assumption) (by assumption)) | ((with_reducible apply Rt.ol); first | assumption | exact cell_kp (by assumption) (by assumption)))); exact Rt.some' rfl))))
        refine Rt.st1 (w := w.drew) hr fun w2 l2 g2 => ?_
        rw [i64_in gn (by omega)]
        have l2' : Rd w2 p A l c gt.toNat 0 := by
          show Lc w2 p [.slice A l c, .int .i64 ((gt.toNat : Nat) : Int), .int .i64 0]
          rw [show ((gt.toNat : Nat) : Int) = gt by omega]; exact l2
        have ht := take_spec (n := n) (m := gn.toNat) l2' hb hi2 (by omega) (by omega)
        rw [show ((gn.toNat : Nat) : Int) = gn by omega] at ht
        refine Rt.call ht ?_
        rintro vs w3 ⟨B, m', c', w3', i', e', hr1, h1, h2, h3, h4, _, h6⟩
        cases hr1
        obtain ⟨h6, h7⟩ := h6 rfl
        rw [if_pos rfl] at h4
        have hG := (d1.tr g2).tr h3
        have h4' := h4.kp ((hk.tr hG).kp fun j hj => by omega)
        have hm' : m' ≤ 2 ^ 38 := by
          have := h4.len
          unfold takeP at this
          split at this <;> simp [slc] at this <;> omega
        (repeat (first | (with_reducible (first | refine Rt.fin ?_ | refine Rt.tL ?_ | refine Rt.tI ?_ | refine Rt.tB ?_ | refine Rt.tS ?_ | refine Rt.tP ?_ | refine Rt.tD ?_ | refine Rt.tM ?_ | refine Rt.tC ?_ | refine Rt.tN ?_ | refine Rt.tA ?_ | refine Rt.tG ?_ | refine Rt.tF ?_ | refine Rt.os ?_ | refine Rt.clS ?_ | refine Rt.jmN ?_ | refine Rt.jbN ?_ | refine Rt.jbE ?_)) | ((with_reducible (first | apply Rt.ld0 | apply Rt.ld1 | apply Rt.ld2 | apply Rt.ld3 | apply Rt.ld4 | apply Rt.ld5)); first | assumption | exact Lc.kp (by assumption) (by assumption)) | ((with_reducible apply Rt.ol); first | assumption | exact cell_kp (by assumption) (by assumption)) | ((with_reducible apply Rt.ckR); focus ((repeat (first | (with_reducible (first | refine Rt.fin ?_ | refine Rt.tL ?_ | refine Rt.tI ?_ | refine Rt.tB ?_ | refine Rt.tS ?_ | refine Rt.tP ?_ | refine Rt.tD ?_ | refine Rt.tM ?_ | refine Rt.tC ?_ | refine Rt.tN ?_ | refine Rt.tA ?_ | refine Rt.tG ?_ | refine Rt.tF ?_ | refine Rt.os ?_ | refine Rt.clS ?_ | refine Rt.jmN ?_ | refine Rt.jbN ?_ | refine Rt.jbE ?_)) | ((with_reducible (first | apply Rt.ld0 | apply Rt.ld1 | apply Rt.ld2 | apply Rt.ld3 | apply Rt.ld4 | apply Rt.ld5)); first | assumption | exact Lc.kp (by assumption) (by assumption)) | ((with_reducible apply Rt.ol); first | assumption | exact cell_kp (by assumption) (by assumption)))); exact Rt.some' rfl))))
        refine Rt.cO (Clone_spec h4' hm') fun D f w4 o4 k4 => ?_
        have hlm := h4.len
        have hfp : fieldP a b zs i = takeP gn.toNat zs gt.toNat := by
          unfold fieldP bindP
          rw [hnum]
          simp only
          rw [if_pos hge.1, if_neg hge.2]
        exact Rt.some' ⟨rfl, D, f, w4, i', e', _, rfl, h1.kp k4, h2, hG.tr k4.gx, o4.mono hG.size, h4.rng, fun h => absurd rfl h, fun _ => by rw [hfp]; exact ⟨h6, fun h => ⟨h7 h, rfl⟩⟩⟩
      · have hf1 : (fieldP a b zs i).1 = e2 := hf.resolve_right (fun h => h0 h.1)
        (repeat (first | (with_reducible (first | refine Rt.fin ?_ | refine Rt.tL ?_ | refine Rt.tI ?_ | refine Rt.tB ?_ | refine Rt.tS ?_ | refine Rt.tP ?_ | refine Rt.tD ?_ | refine Rt.tM ?_ | refine Rt.tC ?_ | refine Rt.tN ?_ | refine Rt.tA ?_ | refine Rt.tG ?_ | refine Rt.tF ?_ | refine Rt.os ?_ | refine Rt.clS ?_ | refine Rt.jmN ?_ | refine Rt.jbN ?_ | refine Rt.jbE ?_)) | ((with_reducible (first | apply Rt.ld0 | apply Rt.ld1 | apply Rt.ld2 | apply Rt.ld3 | apply Rt.ld4 | apply Rt.ld5)); first | assumption | exact Lc.kp (by assumption) (by assumption)) | ((with_reducible apply Rt.ol); first | assumption | exact cell_kp (by assumption) (by assumption)) | ((with_reducible apply Rt.ckR); focus ((repeat (first | (with_reducible (first | refine Rt.fin ?_ | refine Rt.tL ?_ | refine Rt.tI ?_ | refine Rt.tB ?_ | refine Rt.tS ?_ | refine Rt.tP ?_ | refine Rt.tD ?_ | refine Rt.tM ?_ | refine Rt.tC ?_ | refine Rt.tN ?_ | refine Rt.tA ?_ | refine Rt.tG ?_ | refine Rt.tF ?_ | refine Rt.os ?_ | refine Rt.clS ?_ | refine Rt.jmN ?_ | refine Rt.jbN ?_ | refine Rt.jbE ?_)) | ((with_reducible (first | apply Rt.ld0 | apply Rt.ld1 | apply Rt.ld2 | apply Rt.ld3 | apply Rt.ld4 | apply Rt.ld5)); first | assumption | exact Lc.kp (by assumption) (by assumption)) | ((with_reducible apply Rt.ol); first | assumption | exact cell_kp (by assumption) (by assumption)))); exact Rt.some' rfl))))
        refine Rt.st2 (w := w.drew) hr fun w2 l2 g2 => ?_
        exact Rt.some' ⟨rfl, none, 0, w2, i, e2, [], rfl, l2, hi, d1.tr g2, Own.nil _ _, bnil, fun h => absurd rfl h, fun _ => ⟨hf1.symm, fun h => absurd h h0⟩⟩
  · exact Rt.some' ⟨rfl, none, 0, w, i, e, [], rfl, hr, hi, Gx.rfl' _ w, Own.nil _ _, bnil, fun _ => rfl, fun h => absurd h he⟩
theorem slc1 {zs : List Int} {i : Nat} (h : i < zs.length) : slc zs i 1 = [zs.getD i 0] := by
  unfold slc
  rw [List.drop_eq_getElem_cons h, List.take_succ_cons, List.take_zero]
  simp [List.getD_eq_getElem?_getD, h]
theorem op_spec (hr : Rd w p A l c i 0) (hk : Gx (fun k => k = p) w0 w) (hp : w0.heap.size ≤ p) (hb : Bv .u8 w0 A l c zs) (hi : i ≤ l) (hl : l ≤ 2 ^ 38) (hn : 2 ^ 59 < n) :
    Rt (batch_reader_op n [.pointer (some ⟨p, 0, none⟩)] w) fun r => ∃ k B d C f w' i' e' x, r = ([ov k B (OpD.key x).length d C (OpD.val x).length f], w') ∧ Rd w' p A l c i' e' ∧ i' ≤ l ∧ Gx (fun k => k = p) w w' ∧ k = x.kind ∧ (Lit.int .i64 k).wf = true ∧
      Own .u8 5 w' w.heap.size (.slice B x.key.length d) x.key ∧ Own .u8 5 w' w.heap.size (.slice C x.val.length f) x.val ∧ Bytes x.key ∧ Bytes x.val ∧ e' = (opP zs i).1 ∧ (e' = 0 → i' = (opP zs i).2.2 ∧ x = (opP zs i).2.1) := by
  have hzl := hb.len
  have hpl := hr.lt
  rw [batch_reader_op_eq]
  refine Rt.fin (Rt.al fun w1 l1 k1 s1 => Rt.al fun w2 l2 k2 s2 => ?_)
  have l1 := l1.kp k2
  have k12 := k1.tr k2
  have hr2 : Rd w2 p A l c i 0 := Lc.kp hr k12
  -- the kind
  refine Rt.jm (Rt.mono (Q' := fun r => ∃ i1 e1 k1, r.ex = .norm ∧ r.vals = [.pointer (some ⟨p, 0, none⟩), .pointer (some ⟨w.heap.size, 0, none⟩), .pointer (some ⟨w1.heap.size, 0, none⟩)] ∧ Rd r.w p A l c i1 e1 ∧ i1 ≤ l ∧
      Lc r.w w.heap.size [.int .i64 0, .slice none 0 0, .slice none 0 0] ∧ Lc r.w w1.heap.size [.int .i64 k1, .slice none 0 0, .slice none 0 0] ∧ Gx (fun k => k = p) w r.w ∧ (0 ≤ k1 ∧ k1 < 256) ∧
      e1 = (takeP 1 zs i).1 ∧ (e1 = 0 → i1 = (takeP 1 zs i).2.2 ∧ k1 = (takeP 1 zs i).2.1.getD 0 0)) ?_ ?_)
  · have ht := take_spec (n := n) (m := 1) hr2 hb hi (by decide) (by omega)
    refine Rt.call ht ?_
    rintro vs w3 ⟨B, m', c', w3', i1, e1, hr1, h1, h2, h3, h4, _, h6⟩
    cases hr1
    obtain ⟨h6, h7⟩ := h6 rfl
    rw [if_pos rfl] at h4
    have hG : Gx (fun k => k = p) w w3 := (k12.gx).tr h3
    have l1 := l1.gx h3 (by omega)
    have l2 := l2.gx h3 (by omega)
    (repeat (first | (with_reducible (first | refine Rt.fin ?_ | refine Rt.tL ?_ | refine Rt.tI ?_ | refine Rt.tB ?_ | refine Rt.tS ?_ | refine Rt.tP ?_ | refine Rt.tD ?_ | refine Rt.tM ?_ | refine Rt.tC ?_ | refine Rt.tN ?_ | refine Rt.tA ?_ | refine Rt.tG ?_ | refine Rt.tF ?_ | refine Rt.os ?_ | refine Rt.clS ?_ | refine Rt.jmN ?_ | refine Rt.jbN ?_ | refine Rt.jbE ?_)) | ((with_reducible (first | apply Rt.ld0 | apply Rt.ld1 | apply Rt.ld2 | apply Rt.ld3 | apply Rt.ld4 | apply Rt.ld5)); first | assumption | exact Lc.kp (by assumption) (by assumption)) | ((with_reducible apply Rt.ol); first | assumption | exact cell_kp (by assumption) (by assumption)) | ((with_reducible apply Rt.ckR); focus ((repeat (first | (with_reducible (first | refine Rt.fin ?_ | refine Rt.tL ?_ | refine Rt.tI ?_ | refine Rt.tB ?_ | refine Rt.tS ?_ | refine Rt.tP ?_ | refine Rt.tD ?_ | refine Rt.tM ?_ | refine Rt.tC ?_ | refine Rt.tN ?_ | refine Rt.tA ?_ | refine Rt.tG ?_ | refine Rt.tF ?_ | refine Rt.os ?_ | refine Rt.clS ?_ | refine Rt.jmN ?_ | refine Rt.jbN ?_ | refine Rt.jbE ?_)) | ((with_reducible (first | apply Rt.ld0 | apply Rt.ld1 | apply Rt.ld2 | apply Rt.ld3 | apply Rt.ld4 | apply Rt.ld5)); first | assumption | exact Lc.kp (by assumption) (by assumption)) | ((with_reducible apply Rt.ol); first | assumption | exact cell_kp (by assumption) (by assumption)))); exact Rt.some' rfl))))
    refine Rt.cQ (fun h0 => ?_) fun h0 => ?_
    · have hlt : i < zs.length := by
        by_cases h : zs.length < i + 1
        · unfold takeP at h6; rw [if_pos h] at h6; omega
        · omega
      have et : takeP 1 zs i = (0, slc zs i 1, i + 1) := by unfold takeP; rw [if_neg (by omega)]
      rw [et, slc1 hlt] at h4
      have hml : m' = 1 := h4.len.symm
      subst hml
      have h4' := h4.kp ((hk.tr hG).kp fun j hj => by omega)
      refine Rt.ix h4'.sl (by decide) (by decide) ?_
      have hbz := byte_at hb.rng hlt
      have ez : ([zs.getD i 0].getD (Int.toNat 0) 0) = zs.getD i 0 := rfl
      rw [ez, i64_in _ (by omega)]
      refine Rt.st0 l2 fun w4 l4 g4 => ?_
      have hG4 : Gx (fun k => k = p) w w4 := hG.tr' g4 fun j hj e => by omega
      refine Rt.some' ⟨i1, e1, zs.getD i 0, rfl, rfl, h1.gx g4 (by omega), h2, l1.gx g4 (by omega), l4, hG4, hbz, h6, fun h => ⟨h7 h, ?_⟩⟩
      rw [et, slc1 hlt]; rfl
    · exact Rt.some' ⟨i1, e1, 0, rfl, rfl, h1, h2, l1, l2, hG, by decide, h6, fun h => absurd h h0⟩
  · rintro ⟨ex, vs, w3⟩ ⟨i1, e1, kk, h1, h2, hr3, hi1, lb0, lb1, hG, hk0, he1, hk1⟩
    dsimp only at h1 h2 hr3 lb0 lb1 hG
    subst h1 h2
    refine ⟨rfl, ?_⟩
    dsimp only
    have hs3 := hG.size
    (repeat (first | (with_reducible (first | refine Rt.fin ?_ | refine Rt.tL ?_ | refine Rt.tI ?_ | refine Rt.tB ?_ | refine Rt.tS ?_ | refine Rt.tP ?_ | refine Rt.tD ?_ | refine Rt.tM ?_ | refine Rt.tC ?_ | refine Rt.tN ?_ | refine Rt.tA ?_ | refine Rt.tG ?_ | refine Rt.tF ?_ | refine Rt.os ?_ | refine Rt.clS ?_ | refine Rt.jmN ?_ | refine Rt.jbN ?_ | refine Rt.jbE ?_)) | ((with_reducible (first | apply Rt.ld0 | apply Rt.ld1 | apply Rt.ld2 | apply Rt.ld3 | apply Rt.ld4 | apply Rt.ld5)); first | assumption | exact Lc.kp (by assumption) (by assumption)) | ((with_reducible apply Rt.ol); first | assumption | exact cell_kp (by assumption) (by assumption)) | ((with_reducible apply Rt.ckR); focus ((repeat (first | (with_reducible (first | refine Rt.fin ?_ | refine Rt.tL ?_ | refine Rt.tI ?_ | refine Rt.tB ?_ | refine Rt.tS ?_ | refine Rt.tP ?_ | refine Rt.tD ?_ | refine Rt.tM ?_ | refine Rt.tC ?_ | refine Rt.tN ?_ | refine Rt.tA ?_ | refine Rt.tG ?_ | refine Rt.tF ?_ | refine Rt.os ?_ | refine Rt.clS ?_ | refine Rt.jmN ?_ | refine Rt.jbN ?_ | refine Rt.jbE ?_)) | ((with_reducible (first | apply Rt.ld0 | apply Rt.ld1 | apply Rt.ld2 | apply Rt.ld3 | apply Rt.ld4 | apply Rt.ld5)); first | assumption | exact Lc.kp (by assumption) (by assumption)) | ((with_reducible apply Rt.ol); first | assumption | exact cell_kp (by assumption) (by assumption)))); exact Rt.some' rfl))))
    refine Rt.jm (Rt.mono (Q' := fun r => r.ex = .norm ∧ r.vals = [.pointer (some ⟨p, 0, none⟩), .pointer (some ⟨w.heap.size, 0, none⟩), .pointer (some ⟨w1.heap.size, 0, none⟩)] ∧ Rd r.w p A l c i1 (if e1 = 0 ∧ kk ≠ 0 ∧ kk ≠ 1 then 2 else e1) ∧
        Lc r.w w.heap.size [.int .i64 0, .slice none 0 0, .slice none 0 0] ∧ Lc r.w w1.heap.size [.int .i64 kk, .slice none 0 0, .slice none 0 0] ∧ Gx (fun k => k = p) w r.w) ?_ ?_)
    · (repeat (first | (with_reducible (first | refine Rt.fin ?_ | refine Rt.tL ?_ | refine Rt.tI ?_ | refine Rt.tB ?_ | refine Rt.tS ?_ | refine Rt.tP ?_ | refine Rt.tD ?_ | refine Rt.tM ?_ | refine Rt.tC ?_ | refine Rt.tN ?_ | refine Rt.tA ?_ | refine Rt.tG ?_ | refine Rt.tF ?_ | refine Rt.os ?_ | refine Rt.clS ?_ | refine Rt.jmN ?_ | refine Rt.jbN ?_ | refine Rt.jbE ?_)) | ((with_reducible (first | apply Rt.ld0 | apply Rt.ld1 | apply Rt.ld2 | apply Rt.ld3 | apply Rt.ld4 | apply Rt.ld5)); first | assumption | exact Lc.kp (by assumption) (by assumption)) | ((with_reducible apply Rt.ol); first | assumption | exact cell_kp (by assumption) (by assumption)) | ((with_reducible apply Rt.ckR); focus ((repeat (first | (with_reducible (first | refine Rt.fin ?_ | refine Rt.tL ?_ | refine Rt.tI ?_ | refine Rt.tB ?_ | refine Rt.tS ?_ | refine Rt.tP ?_ | refine Rt.tD ?_ | refine Rt.tM ?_ | refine Rt.tC ?_ | refine Rt.tN ?_ | refine Rt.tA ?_ | refine Rt.tG ?_ | refine Rt.tF ?_ | refine Rt.os ?_ | refine Rt.clS ?_ | refine Rt.jmN ?_ | refine Rt.jbN ?_ | refine Rt.jbE ?_)) | ((with_reducible (first | apply Rt.ld0 | apply Rt.ld1 | apply Rt.ld2 | apply Rt.ld3 | apply Rt.ld4 | apply Rt.ld5)); first | assumption | exact Lc.kp (by assumption) (by assumption)) | ((with_reducible apply Rt.ol); first | assumption | exact cell_kp (by assumption) (by assumption)))); exact Rt.some' rfl))))
      refine Rt.cQ (fun h0 => ?_) fun h0 => Rt.some' ⟨rfl, rfl, by rw [if_neg (fun h => h0 h.1)]; exact hr3, lb0, lb1, hG⟩
      (repeat (first | (with_reducible (first | refine Rt.fin ?_ | refine Rt.tL ?_ | refine Rt.tI ?_ | refine Rt.tB ?_ | refine Rt.tS ?_ | refine Rt.tP ?_ | refine Rt.tD ?_ | refine Rt.tM ?_ | refine Rt.tC ?_ | refine Rt.tN ?_ | refine Rt.tA ?_ | refine Rt.tG ?_ | refine Rt.tF ?_ | refine Rt.os ?_ | refine Rt.clS ?_ | refine Rt.jmN ?_ | refine Rt.jbN ?_ | refine Rt.jbE ?_)) | ((with_reducible (first | apply Rt.ld0 | apply Rt.ld1 | apply Rt.ld2 | apply Rt.ld3 | apply Rt.ld4 | apply Rt.ld5)); first | assumption | exact Lc.kp (by assumption) (by assumption)) | ((with_reducible apply Rt.ol); first | assumption | exact cell_kp (by assumption) (by assumption)) | ((with_reducible apply Rt.ckR); focus ((repeat (first | (with_reducible (first | refine Rt.fin ?_ | refine Rt.tL ?_ | refine Rt.tI ?_ | refine Rt.tB ?_ | refine Rt.tS ?_ | refine Rt.tP ?_ | refine Rt.tD ?_ | refine Rt.tM ?_ | refine Rt.tC ?_ | refine Rt.tN ?_ | refine Rt.tA ?_ | refine Rt.tG ?_ | refine Rt.tF ?_ | refine Rt.os ?_ | refine Rt.clS ?_ | refine Rt.jmN ?_ | refine Rt.jbN ?_ | refine Rt.jbE ?_)) | ((with_reducible (first | apply Rt.ld0 | apply Rt.ld1 | apply Rt.ld2 | apply Rt.ld3 | apply Rt.ld4 | apply Rt.ld5)); first | assumption | exact Lc.kp (by assumption) (by assumption)) | ((with_reducible apply Rt.ol); first | assumption | exact cell_kp (by assumption) (by assumption)))); exact Rt.some' rfl))))
      refine Rt.cN (fun h1 => Rt.some' ⟨rfl, rfl, by rw [if_neg (fun h => h.2.1 h1)]; exact hr3, lb0, lb1, hG⟩) fun h1 => ?_
      (repeat (first | (with_reducible (first | refine Rt.fin ?_ | refine Rt.tL ?_ | refine Rt.tI ?_ | refine Rt.tB ?_ | refine Rt.tS ?_ | refine Rt.tP ?_ | refine Rt.tD ?_ | refine Rt.tM ?_ | refine Rt.tC ?_ | refine Rt.tN ?_ | refine Rt.tA ?_ | refine Rt.tG ?_ | refine Rt.tF ?_ | refine Rt.os ?_ | refine Rt.clS ?_ | refine Rt.jmN ?_ | refine Rt.jbN ?_ | refine Rt.jbE ?_)) | ((with_reducible (first | apply Rt.ld0 | apply Rt.ld1 | apply Rt.ld2 | apply Rt.ld3 | apply Rt.ld4 | apply Rt.ld5)); first | assumption | exact Lc.kp (by assumption) (by assumption)) | ((with_reducible apply Rt.ol); first | assumption | exact cell_kp (by assumption) (by assumption)) | ((with_reducible apply Rt.ckR); focus ((repeat (first | (with_reducible (first | refine Rt.fin ?_ | refine Rt.tL ?_ | refine Rt.tI ?_ | refine Rt.tB ?_ | refine Rt.tS ?_ | refine Rt.tP ?_ | refine Rt.tD ?_ | refine Rt.tM ?_ | refine Rt.tC ?_ | refine Rt.tN ?_ | refine Rt.tA ?_ | refine Rt.tG ?_ | refine Rt.tF ?_ | refine Rt.os ?_ | refine Rt.clS ?_ | refine Rt.jmN ?_ | refine Rt.jbN ?_ | refine Rt.jbE ?_)) | ((with_reducible (first | apply Rt.ld0 | apply Rt.ld1 | apply Rt.ld2 | apply Rt.ld3 | apply Rt.ld4 | apply Rt.ld5)); first | assumption | exact Lc.kp (by assumption) (by assumption)) | ((with_reducible apply Rt.ol); first | assumption | exact cell_kp (by assumption) (by assumption)))); exact Rt.some' rfl))))
      refine Rt.cN (fun h2 => Rt.some' ⟨rfl, rfl, by rw [if_neg (fun h => h.2.2 h2)]; exact hr3, lb0, lb1, hG⟩) fun h2 => ?_
      (repeat (first | (with_reducible (first | refine Rt.fin ?_ | refine Rt.tL ?_ | refine Rt.tI ?_ | refine Rt.tB ?_ | refine Rt.tS ?_ | refine Rt.tP ?_ | refine Rt.tD ?_ | refine Rt.tM ?_ | refine Rt.tC ?_ | refine Rt.tN ?_ | refine Rt.tA ?_ | refine Rt.tG ?_ | refine Rt.tF ?_ | refine Rt.os ?_ | refine Rt.clS ?_ | refine Rt.jmN ?_ | refine Rt.jbN ?_ | refine Rt.jbE ?_)) | ((with_reducible (first | apply Rt.ld0 | apply Rt.ld1 | apply Rt.ld2 | apply Rt.ld3 | apply Rt.ld4 | apply Rt.ld5)); first | assumption | exact Lc.kp (by assumption) (by assumption)) | ((with_reducible apply Rt.ol); first | assumption | exact cell_kp (by assumption) (by assumption)) | ((with_reducible apply Rt.ckR); focus ((repeat (first | (with_reducible (first | refine Rt.fin ?_ | refine Rt.tL ?_ | refine Rt.tI ?_ | refine Rt.tB ?_ | refine Rt.tS ?_ | refine Rt.tP ?_ | refine Rt.tD ?_ | refine Rt.tM ?_ | refine Rt.tC ?_ | refine Rt.tN ?_ | refine Rt.tA ?_ | refine Rt.tG ?_ | refine Rt.tF ?_ | refine Rt.os ?_ | refine Rt.clS ?_ | refine Rt.jmN ?_ | refine Rt.jbN ?_ | refine Rt.jbE ?_)) | ((with_reducible (first | apply Rt.ld0 | apply Rt.ld1 | apply Rt.ld2 | apply Rt.ld3 | apply Rt.ld4 | apply Rt.ld5)); first | assumption | exact Lc.kp (by assumption) (by assumption)) | ((with_reducible apply Rt.ol); first | assumption | exact cell_kp (by assumption) (by assumption)))); exact Rt.some' rfl))))
      refine Rt.st2 hr3 fun w4 l4 g4 => Rt.some' ⟨rfl, rfl, by rw [if_pos ⟨h0, h1, h2⟩]; exact l4, lb0.gx g4 (by omega), lb1.gx g4 (by omega), hG.tr g4⟩
    · rintro ⟨ex, vs, w4⟩ ⟨h1, h2, hr4, lb0, lb1, hG⟩
      dsimp only at h1 h2 hr4 lb0 lb1 hG
      subst h1 h2
      refine ⟨rfl, ?_⟩
      dsimp only
      generalize he2 : (if e1 = 0 ∧ kk ≠ 0 ∧ kk ≠ 1 then 2 else e1) = e2 at hr4
      (repeat (first | (with_reducible (first | refine Rt.fin ?_ | refine Rt.tL ?_ | refine Rt.tI ?_ | refine Rt.tB ?_ | refine Rt.tS ?_ | refine Rt.tP ?_ | refine Rt.tD ?_ | refine Rt.tM ?_ | refine Rt.tC ?_ | refine Rt.tN ?_ | refine Rt.tA ?_ | refine Rt.tG ?_ | refine Rt.tF ?_ | refine Rt.os ?_ | refine Rt.clS ?_ | refine Rt.jmN ?_ | refine Rt.jbN ?_ | refine Rt.jbE ?_)) | ((with_reducible (first | apply Rt.ld0 | apply Rt.ld1 | apply Rt.ld2 | apply Rt.ld3 | apply Rt.ld4 | apply Rt.ld5)); first | assumption | exact Lc.kp (by assumption) (by assumption)) | ((with_reducible apply Rt.ol); first | assumption | exact cell_kp (by assumption) (by assumption)) | ((with_reducible apply Rt.ckR); focus ((repeat (first | (with_reducible (first | refine Rt.fin ?_ | refine Rt.tL ?_ | refine Rt.tI ?_ | refine Rt.tB ?_ | refine Rt.tS ?_ | refine Rt.tP ?_ | refine Rt.tD ?_ | refine Rt.tM ?_ | refine Rt.tC ?_ | refine Rt.tN ?_ | refine Rt.tA ?_ | refine Rt.tG ?_ | refine Rt.tF ?_ | refine Rt.os ?_ | refine Rt.clS ?_ | refine Rt.jmN ?_ | refine Rt.jbN ?_ | refine Rt.jbE ?_)) | ((with_reducible (first | apply Rt.ld0 | apply Rt.ld1 | apply Rt.ld2 | apply Rt.ld3 | apply Rt.ld4 | apply Rt.ld5)); first | assumption | exact Lc.kp (by assumption) (by assumption)) | ((with_reducible apply Rt.ol); first | assumption | exact cell_kp (by assumption) (by assumption)))); exact Rt.some' rfl))))
      have hs4 := hG.size
      have hb4 := lb1.lt
      refine Rt.call (text_spec (n := n) (a := 1) (b := 256) hr4 (hk.tr hG) hp hb hi1 hl hn (by decide) (by decide)) ?_
      rintro vs w5 ⟨B, d, w5', i2, e3, key, hr1, hr5, hi2, g5, okey, bkey, h3, h4⟩
      cases hr1
      have lb0 := lb0.gx g5 (by omega)
      have lb1 := lb1.gx g5 (by omega)
      have hG5 := hG.tr g5
      (repeat (first | (with_reducible (first | refine Rt.fin ?_ | refine Rt.tL ?_ | refine Rt.tI ?_ | refine Rt.tB ?_ | refine Rt.tS ?_ | refine Rt.tP ?_ | refine Rt.tD ?_ | refine Rt.tM ?_ | refine Rt.tC ?_ | refine Rt.tN ?_ | refine Rt.tA ?_ | refine Rt.tG ?_ | refine Rt.tF ?_ | refine Rt.os ?_ | refine Rt.clS ?_ | refine Rt.jmN ?_ | refine Rt.jbN ?_ | refine Rt.jbE ?_)) | ((with_reducible (first | apply Rt.ld0 | apply Rt.ld1 | apply Rt.ld2 | apply Rt.ld3 | apply Rt.ld4 | apply Rt.ld5)); first | assumption | exact Lc.kp (by assumption) (by assumption)) | ((with_reducible apply Rt.ol); first | assumption | exact cell_kp (by assumption) (by assumption)) | ((with_reducible apply Rt.ckR); focus ((repeat (first | (with_reducible (first | refine Rt.fin ?_ | refine Rt.tL ?_ | refine Rt.tI ?_ | refine Rt.tB ?_ | refine Rt.tS ?_ | refine Rt.tP ?_ | refine Rt.tD ?_ | refine Rt.tM ?_ | refine Rt.tC ?_ | refine Rt.tN ?_ | refine Rt.tA ?_ | refine Rt.tG ?_ | refine Rt.tF ?_ | refine Rt.os ?_ | refine Rt.clS ?_ | refine Rt.jmN ?_ | refine Rt.jbN ?_ | refine Rt.jbE ?_)) | ((with_reducible (first | apply Rt.ld0 | apply Rt.ld1 | apply Rt.ld2 | apply Rt.ld3 | apply Rt.ld4 | apply Rt.ld5)); first | assumption | exact Lc.kp (by assumption) (by assumption)) | ((with_reducible apply Rt.ol); first | assumption | exact cell_kp (by assumption) (by assumption)))); exact Rt.some' rfl))))
      refine Rt.st1 lb1 fun w6 lb1' g6 => ?_
      have lb0 := lb0.gx g6 (by omega)
      have hr6 := hr5.gx g6 (by omega)
      have hb1 := lb1.lt
      have hw1 : w.heap.size < w1.heap.size := s1
      have ok6 := okey.gx g6 fun j hj hj' => by have := (okey.lt j hj).1; omega
      have hG6 : Gx (fun k => k = p) w w6 := hG5.tr' g6 fun j hj e => by omega
      refine Rt.jm (Rt.mono (Q' := fun r => ∃ i3 e4 val C f, r.ex = .norm ∧ r.vals = [.pointer (some ⟨w.heap.size, 0, none⟩), .pointer (some ⟨w1.heap.size, 0, none⟩)] ∧ Rd r.w p A l c i3 e4 ∧ i3 ≤ l ∧ Lc r.w w.heap.size [.int .i64 0, .slice none 0 0, .slice none 0 0] ∧
          Lc r.w w1.heap.size [.int .i64 kk, .slice B key.length d, .slice C (List.length val) f] ∧ Gx (fun k => k = p) w r.w ∧ Own .u8 5 r.w w4.heap.size (.slice B key.length d) key ∧ Own .u8 5 r.w w4.heap.size (.slice C val.length f) val ∧ Bytes val ∧
          (kk = 1 → (e3 ≠ 0 → e4 = e3) ∧ (e3 = 0 → e4 = (fieldP 0 4096 zs i2).1 ∧ (e4 = 0 → i3 = (fieldP 0 4096 zs i2).2.2 ∧ val = (fieldP 0 4096 zs i2).2.1))) ∧ (kk ≠ 1 → e4 = e3 ∧ i3 = i2 ∧ val = [])) ?_ ?_)
      · (repeat (first | (with_reducible (first | refine Rt.fin ?_ | refine Rt.tL ?_ | refine Rt.tI ?_ | refine Rt.tB ?_ | refine Rt.tS ?_ | refine Rt.tP ?_ | refine Rt.tD ?_ | refine Rt.tM ?_ | refine Rt.tC ?_ | refine Rt.tN ?_ | refine Rt.tA ?_ | refine Rt.tG ?_ | refine Rt.tF ?_ | refine Rt.os ?_ | refine Rt.clS ?_ | refine Rt.jmN ?_ | refine Rt.jbN ?_ | refine Rt.jbE ?_)) | ((with_reducible (first | apply Rt.ld0 | apply Rt.ld1 | apply Rt.ld2 | apply Rt.ld3 | apply Rt.ld4 | apply Rt.ld5)); first | assumption | exact Lc.kp (by assumption) (by assumption)) | ((with_reducible apply Rt.ol); first | assumption | exact cell_kp (by assumption) (by assumption)) | ((with_reducible apply Rt.ckR); focus ((repeat (first | (with_reducible (first | refine Rt.fin ?_ | refine Rt.tL ?_ | refine Rt.tI ?_ | refine Rt.tB ?_ | refine Rt.tS ?_ | refine Rt.tP ?_ | refine Rt.tD ?_ | refine Rt.tM ?_ | refine Rt.tC ?_ | refine Rt.tN ?_ | refine Rt.tA ?_ | refine Rt.tG ?_ | refine Rt.tF ?_ | refine Rt.os ?_ | refine Rt.clS ?_ | refine Rt.jmN ?_ | refine Rt.jbN ?_ | refine Rt.jbE ?_)) | ((with_reducible (first | apply Rt.ld0 | apply Rt.ld1 | apply Rt.ld2 | apply Rt.ld3 | apply Rt.ld4 | apply Rt.ld5)); first | assumption | exact Lc.kp (by assumption) (by assumption)) | ((with_reducible apply Rt.ol); first | assumption | exact cell_kp (by assumption) (by assumption)))); exact Rt.some' rfl))))
        refine Rt.cQ (fun h1 => ?_) fun h1 => ?_
        · refine Rt.call (text_spec (n := n) (a := 0) (b := 4096) hr6 (hk.tr hG6) hp hb hi2 hl hn (by decide) (by decide)) ?_
          rintro vs w7 ⟨C, f, w7', i3, e4, val, hr1, hr7, hi3, g7, oval, bval, h5, h6⟩
          cases hr1
          have lb0 := lb0.gx g7 (by omega)
          have lb1 := lb1'.gx g7 (by omega)
          (repeat (first | (with_reducible (first | refine Rt.fin ?_ | refine Rt.tL ?_ | refine Rt.tI ?_ | refine Rt.tB ?_ | refine Rt.tS ?_ | refine Rt.tP ?_ | refine Rt.tD ?_ | refine Rt.tM ?_ | refine Rt.tC ?_ | refine Rt.tN ?_ | refine Rt.tA ?_ | refine Rt.tG ?_ | refine Rt.tF ?_ | refine Rt.os ?_ | refine Rt.clS ?_ | refine Rt.jmN ?_ | refine Rt.jbN ?_ | refine Rt.jbE ?_)) | ((with_reducible (first | apply Rt.ld0 | apply Rt.ld1 | apply Rt.ld2 | apply Rt.ld3 | apply Rt.ld4 | apply Rt.ld5)); first | assumption | exact Lc.kp (by assumption) (by assumption)) | ((with_reducible apply Rt.ol); first | assumption | exact cell_kp (by assumption) (by assumption)) | ((with_reducible apply Rt.ckR); focus ((repeat (first | (with_reducible (first | refine Rt.fin ?_ | refine Rt.tL ?_ | refine Rt.tI ?_ | refine Rt.tB ?_ | refine Rt.tS ?_ | refine Rt.tP ?_ | refine Rt.tD ?_ | refine Rt.tM ?_ | refine Rt.tC ?_ | refine Rt.tN ?_ | refine Rt.tA ?_ | refine Rt.tG ?_ | refine Rt.tF ?_ | refine Rt.os ?_ | refine Rt.clS ?_ | refine Rt.jmN ?_ | refine Rt.jbN ?_ | refine Rt.jbE ?_)) | ((with_reducible (first | apply Rt.ld0 | apply Rt.ld1 | apply Rt.ld2 | apply Rt.ld3 | apply Rt.ld4 | apply Rt.ld5)); first | assumption | exact Lc.kp (by assumption) (by assumption)) | ((with_reducible apply Rt.ol); first | assumption | exact cell_kp (by assumption) (by assumption)))); exact Rt.some' rfl))))
          refine Rt.st2 lb1 fun w8 lb1 g8 => ?_
          have hs6 := hG6.size
          have hl1 := lb1'.lt
          have hpl6 := hr6.lt
          have ok7 := ok6.gx g7 fun j hj hj' => by have := (ok6.lt j hj).1; have := hr4.lt; omega
          have hw6 : w4.heap.size ≤ w6.heap.size := by have := g5.size; have := g6.size; omega
          exact Rt.some' ⟨i3, e4, val, C, f, rfl, rfl, hr7.gx g8 (by omega), hi3, lb0.gx g8 (by omega), lb1, (hG6.tr g7).tr' g8 (fun j hj e => by omega), ok7.gx g8 (fun j hj hj' => by have := (ok7.lt j hj).1; omega),
            (oval.gx g8 (fun j hj hj' => by have := (oval.lt j hj).1; omega)).mono hw6, bval, fun _ => ⟨h5, h6⟩, fun h => absurd h1 h⟩
        · exact Rt.some' ⟨i2, e3, [], none, 0, rfl, rfl, hr6, hi2, lb0, lb1', hG6, ok6, Own.nil _ _, bnil, fun h => absurd h h1, fun _ => ⟨rfl, rfl, rfl⟩⟩
      · rintro ⟨ex, vs, w7⟩ ⟨i3, e4, val, C, f, h1, h2, hr7, hi3, lb0, lb1, hG7, ok7, ov7, bval, h5, h6⟩
        dsimp only at h1 h2 hr7 lb0 lb1 hG7 ok7 ov7
        subst h1 h2
        refine ⟨rfl, ?_⟩
        dsimp only
        (repeat (first | (with_reducible (first | refine Rt.fin ?_ | refine Rt.tL ?_ | refine Rt.tI ?_ | refine Rt.tB ?_ | refine Rt.tS ?_ | refine Rt.tP ?_ | refine Rt.tD ?_ | refine Rt.tM ?_ | refine Rt.tC ?_ | refine Rt.tN ?_ | refine Rt.tA ?_ | refine Rt.tG ?_ | refine Rt.tF ?_ | refine Rt.os ?_ | refine Rt.clS ?_ | refine Rt.jmN ?_ | refine Rt.jbN ?_ | refine Rt.jbE ?_)) | ((with_reducible (first | apply Rt.ld0 | apply Rt.ld1 | apply Rt.ld2 | apply Rt.ld3 | apply Rt.ld4 | apply Rt.ld5)); first | assumption | exact Lc.kp (by assumption) (by assumption)) | ((with_reducible apply Rt.ol); first | assumption | exact cell_kp (by assumption) (by assumption)) | ((with_reducible apply Rt.ckR); focus ((repeat (first | (with_reducible (first | refine Rt.fin ?_ | refine Rt.tL ?_ | refine Rt.tI ?_ | refine Rt.tB ?_ | refine Rt.tS ?_ | refine Rt.tP ?_ | refine Rt.tD ?_ | refine Rt.tM ?_ | refine Rt.tC ?_ | refine Rt.tN ?_ | refine Rt.tA ?_ | refine Rt.tG ?_ | refine Rt.tF ?_ | refine Rt.os ?_ | refine Rt.clS ?_ | refine Rt.jmN ?_ | refine Rt.jbN ?_ | refine Rt.jbE ?_)) | ((with_reducible (first | apply Rt.ld0 | apply Rt.ld1 | apply Rt.ld2 | apply Rt.ld3 | apply Rt.ld4 | apply Rt.ld5)); first | assumption | exact Lc.kp (by assumption) (by assumption)) | ((with_reducible apply Rt.ol); first | assumption | exact cell_kp (by assumption) (by assumption)))); exact Rt.some' rfl))))
        refine Rt.sto3 lb0 fun w8 lb0 g8 => ?_
        (repeat (first | (with_reducible (first | refine Rt.fin ?_ | refine Rt.tL ?_ | refine Rt.tI ?_ | refine Rt.tB ?_ | refine Rt.tS ?_ | refine Rt.tP ?_ | refine Rt.tD ?_ | refine Rt.tM ?_ | refine Rt.tC ?_ | refine Rt.tN ?_ | refine Rt.tA ?_ | refine Rt.tG ?_ | refine Rt.tF ?_ | refine Rt.os ?_ | refine Rt.clS ?_ | refine Rt.jmN ?_ | refine Rt.jbN ?_ | refine Rt.jbE ?_)) | ((with_reducible (first | apply Rt.ld0 | apply Rt.ld1 | apply Rt.ld2 | apply Rt.ld3 | apply Rt.ld4 | apply Rt.ld5)); first | assumption | exact Lc.kp (by assumption) (by assumption)) | ((with_reducible apply Rt.ol); first | assumption | exact cell_kp (by assumption) (by assumption)) | ((with_reducible apply Rt.ckR); focus ((repeat (first | (with_reducible (first | refine Rt.fin ?_ | refine Rt.tL ?_ | refine Rt.tI ?_ | refine Rt.tB ?_ | refine Rt.tS ?_ | refine Rt.tP ?_ | refine Rt.tD ?_ | refine Rt.tM ?_ | refine Rt.tC ?_ | refine Rt.tN ?_ | refine Rt.tA ?_ | refine Rt.tG ?_ | refine Rt.tF ?_ | refine Rt.os ?_ | refine Rt.clS ?_ | refine Rt.jmN ?_ | refine Rt.jbN ?_ | refine Rt.jbE ?_)) | ((with_reducible (first | apply Rt.ld0 | apply Rt.ld1 | apply Rt.ld2 | apply Rt.ld3 | apply Rt.ld4 | apply Rt.ld5)); first | assumption | exact Lc.kp (by assumption) (by assumption)) | ((with_reducible apply Rt.ol); first | assumption | exact cell_kp (by assumption) (by assumption)))); exact Rt.some' rfl))))
        have hk64 : (Lit.int .i64 kk).wf = true := by
          have h0 : IntKind.i64.min = -2 ^ 63 := rfl
          have h1 : IntKind.i64.max = 2 ^ 63 - 1 := rfl
          simp only [Lit.wf, h0, h1, Bool.and_eq_true, decide_eq_true_eq]; omega
        refine Rt.some' ⟨rfl, kk, B, d, C, f, w8, i3, e4, ⟨kk, key, val⟩, rfl, hr7.gx g8 (by omega), hi3, hG7.tr' g8 (fun j hj e => by omega), rfl, hk64,
          (ok7.gx g8 fun j hj hj' => by have := (ok7.lt j hj).1; omega).mono hs4, (ov7.gx g8 fun j hj hj' => by have := (ov7.lt j hj).1; omega).mono hs4, bkey, bval, ?_⟩
        -- what the reading says
        clear g8 lb0 lb1 hr7 ok7 ov7 hG7 hr6 hr5 hr4 hr3 okey ok6 hr hr2
        have e0 : (opP zs i) = if (takeP 1 zs i).1 = 0 then (if (takeP 1 zs i).2.1.getD 0 0 > 1 then failP 2 else bindP (fieldP 1 256) fun key => if (takeP 1 zs i).2.1.getD 0 0 = 1 then bindP (fieldP 0 4096) fun v => retP ⟨1, key, v⟩ else retP ⟨(takeP 1 zs i).2.1.getD 0 0, key, []⟩) zs (takeP 1 zs i).2.2 else ((takeP 1 zs i).1, default, 0) := rfl
        rw [e0, ← he1]
        by_cases c1 : e1 = 0
        · obtain ⟨hi1', hk1'⟩ := hk1 c1
          rw [if_pos c1, ← hi1', ← hk1']
          by_cases c2 : kk > 1
          · have : e2 = 2 := by rw [if_pos ⟨c1, by omega, by omega⟩] at he2; exact he2.symm
            have e32 := h3 (by omega)
            rw [if_pos c2]
            have := (h6 (by omega)).1
            refine ⟨by show e4 = 2; omega, fun h => by omega⟩
          · have : e2 = 0 := by rw [if_neg (by omega)] at he2; omega
            obtain ⟨e31, e32⟩ := h4 this
            rw [if_neg c2]
            unfold bindP
            rw [← e31]
            by_cases c3 : e3 = 0
            · obtain ⟨e33, e34⟩ := e32 c3
              rw [if_pos c3, ← e33, ← e34]
              dsimp only
              by_cases c4 : kk = 1
              · obtain ⟨_, e41⟩ := h5 c4
                obtain ⟨e41, e42⟩ := e41 c3
                rw [if_pos c4, ← e41]
                by_cases c5 : e4 = 0
                · obtain ⟨e43, e44⟩ := e42 c5
                  rw [if_pos c5, ← e43, ← e44, c4]
                  exact ⟨c5, fun _ => ⟨rfl, rfl⟩⟩
                · rw [if_neg c5]; exact ⟨rfl, fun h => absurd h c5⟩
              · obtain ⟨e41, e42, e43⟩ := h6 c4
                rw [if_neg c4, e42, e43]
                exact ⟨by show e4 = 0; omega, fun _ => ⟨rfl, rfl⟩⟩
            · rw [if_neg c3]
              have : e4 = e3 := by
                by_cases c4 : kk = 1
                · exact (h5 c4).1 c3
                · exact (h6 c4).1
              exact ⟨this, fun h => by omega⟩
        · have : e2 = e1 := by rw [if_neg (fun h => c1 h.1)] at he2; omega
          have e32 := h3 (by omega)
          have : e4 = e3 := by
            by_cases c4 : kk = 1
            · exact (h5 c4).1 (by omega)
            · exact (h6 c4).1
          rw [if_neg c1]
          exact ⟨by show e4 = e1; omega, fun h => by omega⟩
end
end Go.Proofs.YtdcdgmiojlldaaaDoor.Ba
/- T6 T7 T8 T9 -/
/- Batches: Read. -/
namespace Go.Proofs.YtdcdgmiojlldaaaDoor.Ba
open Go Big Go.RowKit Go.IntWalk Var Low Par
set_option linter.unusedVariables false
set_option linter.unusedSimpArgs false
def RBat (w0 : World) (x : Int × Int × List OpD) : List Value × World → Prop := fun r => ∃ B d w', r = ([bv x.2.1 B x.2.2.length d, .int .i64 x.1], w') ∧ OwnX (fun j => j < w0.heap.size) opEl 30 w' w0.heap.size (.slice B x.2.2.length d) x.2.2 ∧ Kp w0 w'
theorem op_stb {w w1 : World} {S : Nat → Prop} {k : Int} {B C : Option Addr} {d f base : Nat} {x : OpD} (hk : k = x.kind) (hw : (Lit.int .i64 k).wf = true) (o1 : Own .u8 5 w base (.slice B x.key.length d) x.key) (o2 : Own .u8 5 w base (.slice C x.val.length f) x.val) (b1 : Bytes x.key) (b2 : Bytes x.val)
    (hS : ∀ j, S j → j < base) : Stb S (fun w => opEl.rd w [.int .i64 k, .slice B x.key.length d, .slice C x.val.length f] x) w := fun w' hg =>
  ⟨_, _, _, _, _, _, _, rfl, hk, by rw [← hk]; exact hw, (o1.gx hg fun j hj hs => by have := (o1.lt j hj).1; have := hS j hs; omega).bv b1, (o2.gx hg fun j hj hs => by have := (o2.lt j hj).1; have := hS j hs; omega).bv b2⟩
section
variable {α : Type} {Q : α → Prop} {n : Nat} {w w0 : World} {A B C : Option Addr} {l c m d p i : Nat} {k e : Int} {x : OpD} {xs ys : List OpD} {bs zs : List Int}
abbrev SX (p b0 xb : Nat) : Nat → Prop := fun k => k ≤ p ∨ k ≤ b0 ∨ k ≤ xb
theorem Read_l0 {b0 xb base : Nat} {nn : Nat} {s : Int} (hb : Bv .u8 w0 A l c zs) (hl : l ≤ 2 ^ 38) (hn : 2 ^ 59 < n) (hnn : nn ≤ 100) (hp : w0.heap.size ≤ p) (hb0 : w0.heap.size ≤ b0) (hxb : w0.heap.size ≤ xb) (hne1 : p ≠ xb) (hne2 : b0 ≠ xb) (hne3 : p ≠ b0) (h1 : p < base) (h2 : b0 < base) (h3 : xb < base) :
    ∀ (q i j : Nat) (w : World) (at_ : Nat) (e : Int) (R : Option Addr) (d : Nat) (rs : List OpD), i + q = nn → q < j → Kp w0 w → base ≤ w.heap.size → Rd w p A l c at_ e → at_ ≤ l → Lc w b0 [.int .u64 0, .slice none 0 0] → Lc w xb [.int .u64 s, .slice R rs.length d] → rs.length ≤ i →
      OwnX (SX p b0 xb) opEl 30 w base (.slice R rs.length d) rs →
    Rt (batch_Read.l0 n j A l c ⟨b0, 0, none⟩ ⟨p, 0, none⟩ ⟨xb, 0, none⟩ (nn : Int) (i : Int) w) fun r => r.ex = .exit 0 ∧ r.vals = [.slice A l c, .pointer (some ⟨b0, 0, none⟩), .pointer (some ⟨p, 0, none⟩), .pointer (some ⟨xb, 0, none⟩)] ∧ Kp w0 r.w ∧ Lc r.w b0 [.int .u64 0, .slice none 0 0] ∧
      ∃ a' e' R' d' rs', Rd r.w p A l c a' e' ∧ a' ≤ l ∧ Lc r.w xb [.int .u64 s, .slice R' (List.length rs') d'] ∧ OwnX (SX p b0 xb) opEl 30 r.w base (.slice R' rs'.length d') rs' ∧ (e ≠ 0 → e' = e) ∧ (e = 0 → e' = (opsP q zs at_).1 ∧ (e' = 0 → a' = (opsP q zs at_).2.2 ∧ rs' = rs ++ (opsP q zs at_).2.1)) := by
  obtain ⟨ti, tz, hT⟩ := slO
  have hzl := hb.len
  intro q
  induction q with
  | zero =>
    intro i j w at_ e R d rs hi hj hk hbs hr ha lb0 lxb hrl ho
    obtain ⟨j, rfl⟩ : ∃ j', j = j' + 1 := ⟨j - 1, by omega⟩
    rw [batch_Read.l0_succ]
    exact Rt.cDF (by omega) (Rt.some' ⟨rfl, rfl, hk, lb0, at_, e, R, d, rs, hr, ha, lxb, ho, fun _ => rfl, fun he => ⟨he, fun _ => ⟨rfl, by simp [opsP, retP]⟩⟩⟩)
  | succ q ih =>
    intro i j w at_ e R d rs hi hj hk hbs hr ha lb0 lxb hrl ho
    obtain ⟨j, rfl⟩ : ∃ j', j = j' + 1 := ⟨j - 1, by omega⟩
    rw [batch_Read.l0_succ]
    refine Rt.cDT (by omega) ?_
    (repeat (first | (with_reducible (first | refine Rt.fin ?_ | refine Rt.tL ?_ | refine Rt.tI ?_ | refine Rt.tB ?_ | refine Rt.tS ?_ | refine Rt.tP ?_ | refine Rt.tD ?_ | refine Rt.tM ?_ | refine Rt.tC ?_ | refine Rt.tN ?_ | refine Rt.tA ?_ | refine Rt.tG ?_ | refine Rt.tF ?_ | refine Rt.os ?_ | refine Rt.clS ?_ | refine Rt.jmN ?_ | refine Rt.jbN ?_ | refine Rt.jbE ?_)) | ((with_reducible (first | apply Rt.ld0 | apply Rt.ld1 | apply Rt.ld2 | apply Rt.ld3 | apply Rt.ld4 | apply Rt.ld5)); first | assumption | exact Lc.kp (by assumption) (by assumption)) | ((with_reducible apply Rt.ol); first | assumption | exact cell_kp (by assumption) (by assumption)) | ((with_reducible apply Rt.ckR); focus ((repeat (first | (with_reducible (first | refine Rt.fin ?_ | refine Rt.tL ?_ | refine Rt.tI ?_ | refine Rt.tB ?_ | refine Rt.tS ?_ | refine Rt.tP ?_ | refine Rt.tD ?_ | refine Rt.tM ?_ | refine Rt.tC ?_ | refine Rt.tN ?_ | refine Rt.tA ?_ | refine Rt.tG ?_ | refine Rt.tF ?_ | refine Rt.os ?_ | refine Rt.clS ?_ | refine Rt.jmN ?_ | refine Rt.jbN ?_ | refine Rt.jbE ?_)) | ((with_reducible (first | apply Rt.ld0 | apply Rt.ld1 | apply Rt.ld2 | apply Rt.ld3 | apply Rt.ld4 | apply Rt.ld5)); first | assumption | exact Lc.kp (by assumption) (by assumption)) | ((with_reducible apply Rt.ol); first | assumption | exact cell_kp (by assumption) (by assumption)))); exact Rt.some' rfl))))
    refine Rt.cQ (fun he => ?_) fun he => Rt.some' ⟨rfl, rfl, hk, lb0, at_, e, R, d, rs, hr, ha, lxb, ho, fun _ => rfl, fun h => absurd h he⟩
    subst he
    have d1 : Kp w w.drew := (Kp.rfl' w).dr
    have lxbd := lxb.kp d1
    (repeat (first | (with_reducible (first | refine Rt.fin ?_ | refine Rt.tL ?_ | refine Rt.tI ?_ | refine Rt.tB ?_ | refine Rt.tS ?_ | refine Rt.tP ?_ | refine Rt.tD ?_ | refine Rt.tM ?_ | refine Rt.tC ?_ | refine Rt.tN ?_ | refine Rt.tA ?_ | refine Rt.tG ?_ | refine Rt.tF ?_ | refine Rt.os ?_ | refine Rt.clS ?_ | refine Rt.jmN ?_ | refine Rt.jbN ?_ | refine Rt.jbE ?_)) | ((with_reducible (first | apply Rt.ld0 | apply Rt.ld1 | apply Rt.ld2 | apply Rt.ld3 | apply Rt.ld4 | apply Rt.ld5)); first | assumption | exact Lc.kp (by assumption) (by assumption)) | ((with_reducible apply Rt.ol); first | assumption | exact cell_kp (by assumption) (by assumption)) | ((with_reducible apply Rt.ckR); focus ((repeat (first | (with_reducible (first | refine Rt.fin ?_ | refine Rt.tL ?_ | refine Rt.tI ?_ | refine Rt.tB ?_ | refine Rt.tS ?_ | refine Rt.tP ?_ | refine Rt.tD ?_ | refine Rt.tM ?_ | refine Rt.tC ?_ | refine Rt.tN ?_ | refine Rt.tA ?_ | refine Rt.tG ?_ | refine Rt.tF ?_ | refine Rt.os ?_ | refine Rt.clS ?_ | refine Rt.jmN ?_ | refine Rt.jbN ?_ | refine Rt.jbE ?_)) | ((with_reducible (first | apply Rt.ld0 | apply Rt.ld1 | apply Rt.ld2 | apply Rt.ld3 | apply Rt.ld4 | apply Rt.ld5)); first | assumption | exact Lc.kp (by assumption) (by assumption)) | ((with_reducible apply Rt.ol); first | assumption | exact cell_kp (by assumption) (by assumption)))); exact Rt.some' rfl))))
    have hrd := Lc.kp hr d1
    refine Rt.call (op_spec (n := n) hrd ((hk.tr d1).gx) hp hb ha hl hn) ?_
    rintro vs w1 ⟨k, B, f, C, g, w1', a1, e1, x, hr1, hR1, ha1, g1, hkx, hwf, okey, oval, bkey, bval, he1, hx1⟩
    cases hr1
    have k1 : Kp w0 w1 := (hk.tr d1).tx g1 fun j hj => by omega
    have lb1 := (lb0.kp d1).gx g1 (fun h => hne3 h.symm)
    have lx1 := (lxb.kp d1).gx g1 (fun h => hne1 h.symm)
    have hrowlt := ho.lt
    have o1 := (ho.kp d1).gx g1 (fun k _ h => .inl (Nat.le_of_eq h)) fun k hk1 hv => by have := (hrowlt _ hv).1; omega
    have hwd : w.drew.heap.size = w.heap.size := rfl
    have hs1 := g1.size
    (repeat (first | (with_reducible (first | refine Rt.fin ?_ | refine Rt.tL ?_ | refine Rt.tI ?_ | refine Rt.tB ?_ | refine Rt.tS ?_ | refine Rt.tP ?_ | refine Rt.tD ?_ | refine Rt.tM ?_ | refine Rt.tC ?_ | refine Rt.tN ?_ | refine Rt.tA ?_ | refine Rt.tG ?_ | refine Rt.tF ?_ | refine Rt.os ?_ | refine Rt.clS ?_ | refine Rt.jmN ?_ | refine Rt.jbN ?_ | refine Rt.jbE ?_)) | ((with_reducible (first | apply Rt.ld0 | apply Rt.ld1 | apply Rt.ld2 | apply Rt.ld3 | apply Rt.ld4 | apply Rt.ld5)); first | assumption | exact Lc.kp (by assumption) (by assumption)) | ((with_reducible apply Rt.ol); first | assumption | exact cell_kp (by assumption) (by assumption)) | ((with_reducible apply Rt.ckR); focus ((repeat (first | (with_reducible (first | refine Rt.fin ?_ | refine Rt.tL ?_ | refine Rt.tI ?_ | refine Rt.tB ?_ | refine Rt.tS ?_ | refine Rt.tP ?_ | refine Rt.tD ?_ | refine Rt.tM ?_ | refine Rt.tC ?_ | refine Rt.tN ?_ | refine Rt.tA ?_ | refine Rt.tG ?_ | refine Rt.tF ?_ | refine Rt.os ?_ | refine Rt.clS ?_ | refine Rt.jmN ?_ | refine Rt.jbN ?_ | refine Rt.jbE ?_)) | ((with_reducible (first | apply Rt.ld0 | apply Rt.ld1 | apply Rt.ld2 | apply Rt.ld3 | apply Rt.ld4 | apply Rt.ld5)); first | assumption | exact Lc.kp (by assumption) (by assumption)) | ((with_reducible apply Rt.ol); first | assumption | exact cell_kp (by assumption) (by assumption)))); exact Rt.some' rfl))))
    refine Rt.al fun w2 l2 k2 s2 => ?_
    have lx2 := lx1.kp k2
    (repeat (first | (with_reducible (first | refine Rt.fin ?_ | refine Rt.tL ?_ | refine Rt.tI ?_ | refine Rt.tB ?_ | refine Rt.tS ?_ | refine Rt.tP ?_ | refine Rt.tD ?_ | refine Rt.tM ?_ | refine Rt.tC ?_ | refine Rt.tN ?_ | refine Rt.tA ?_ | refine Rt.tG ?_ | refine Rt.tF ?_ | refine Rt.os ?_ | refine Rt.clS ?_ | refine Rt.jmN ?_ | refine Rt.jbN ?_ | refine Rt.jbE ?_)) | ((with_reducible (first | apply Rt.ld0 | apply Rt.ld1 | apply Rt.ld2 | apply Rt.ld3 | apply Rt.ld4 | apply Rt.ld5)); first | assumption | exact Lc.kp (by assumption) (by assumption)) | ((with_reducible apply Rt.ol); first | assumption | exact cell_kp (by assumption) (by assumption)) | ((with_reducible apply Rt.ckR); focus ((repeat (first | (with_reducible (first | refine Rt.fin ?_ | refine Rt.tL ?_ | refine Rt.tI ?_ | refine Rt.tB ?_ | refine Rt.tS ?_ | refine Rt.tP ?_ | refine Rt.tD ?_ | refine Rt.tM ?_ | refine Rt.tC ?_ | refine Rt.tN ?_ | refine Rt.tA ?_ | refine Rt.tG ?_ | refine Rt.tF ?_ | refine Rt.os ?_ | refine Rt.clS ?_ | refine Rt.jmN ?_ | refine Rt.jbN ?_ | refine Rt.jbE ?_)) | ((with_reducible (first | apply Rt.ld0 | apply Rt.ld1 | apply Rt.ld2 | apply Rt.ld3 | apply Rt.ld4 | apply Rt.ld5)); first | assumption | exact Lc.kp (by assumption) (by assumption)) | ((with_reducible apply Rt.ol); first | assumption | exact cell_kp (by assumption) (by assumption)))); exact Rt.some' rfl))))
    have hstb := op_stb (w := w1) (w1 := w1) (S := fun k => SX p b0 xb k ∨ On (.slice R rs.length d) k) hkx hwf okey oval bkey bval (fun j hj => by
      rcases hj with (h | h | h) | h
      · omega
      · omega
      · omega
      · have := (hrowlt _ h).2; omega)
    refine Rt.app1L rfl hT (o1.kp k2) l2 rfl (hstb.kp k2) (by omega) (by have := k2.size; omega) fun R' d' w3 o3 g3 s3 => ?_
    (repeat (first | (with_reducible (first | refine Rt.fin ?_ | refine Rt.tL ?_ | refine Rt.tI ?_ | refine Rt.tB ?_ | refine Rt.tS ?_ | refine Rt.tP ?_ | refine Rt.tD ?_ | refine Rt.tM ?_ | refine Rt.tC ?_ | refine Rt.tN ?_ | refine Rt.tA ?_ | refine Rt.tG ?_ | refine Rt.tF ?_ | refine Rt.os ?_ | refine Rt.clS ?_ | refine Rt.jmN ?_ | refine Rt.jbN ?_ | refine Rt.jbE ?_)) | ((with_reducible (first | apply Rt.ld0 | apply Rt.ld1 | apply Rt.ld2 | apply Rt.ld3 | apply Rt.ld4 | apply Rt.ld5)); first | assumption | exact Lc.kp (by assumption) (by assumption)) | ((with_reducible apply Rt.ol); first | assumption | exact cell_kp (by assumption) (by assumption)) | ((with_reducible apply Rt.ckR); focus ((repeat (first | (with_reducible (first | refine Rt.fin ?_ | refine Rt.tL ?_ | refine Rt.tI ?_ | refine Rt.tB ?_ | refine Rt.tS ?_ | refine Rt.tP ?_ | refine Rt.tD ?_ | refine Rt.tM ?_ | refine Rt.tC ?_ | refine Rt.tN ?_ | refine Rt.tA ?_ | refine Rt.tG ?_ | refine Rt.tF ?_ | refine Rt.os ?_ | refine Rt.clS ?_ | refine Rt.jmN ?_ | refine Rt.jbN ?_ | refine Rt.jbE ?_)) | ((with_reducible (first | apply Rt.ld0 | apply Rt.ld1 | apply Rt.ld2 | apply Rt.ld3 | apply Rt.ld4 | apply Rt.ld5)); first | assumption | exact Lc.kp (by assumption) (by assumption)) | ((with_reducible apply Rt.ol); first | assumption | exact cell_kp (by assumption) (by assumption)))); exact Rt.some' rfl))))
    have hne : ∀ b, (b = p ∨ b = b0 ∨ b = xb) → ¬ On (.slice R rs.length d) b := fun b hb' h => by have := (hrowlt _ h).1; omega
    have lx3 := lx2.gx g3 (hne xb (by omega))
    refine Rt.st1 lx3 fun w4 lx4 g4 => ?_
    have hR4 := ((Lc.kp hR1 k2).gx g3 (hne p (by omega))).gx g4 (by omega)
    have lb4 := ((lb1.kp k2).gx g3 (hne b0 (by omega))).gx g4 hne2
    have ho1 := o1.lt
    have k4 : Kp w0 w4 := ((k1.tr k2).tx g3 (fun j hj => by have := (hrowlt _ hj).1; omega)).tx g4 fun j hj => by omega
    have o4 := o3.gx g4 (fun k _ h => .inr (.inr (Nat.le_of_eq h))) fun k hk' hv => by have := (o3.lt _ hv).1; omega
    have hs4 := g4.size
    have hs2 := k2.size
    have el : (rs ++ [x]).length = rs.length + 1 := by simp
    rw [u64_in _ (by omega), show ((i : Int) + 1) = ((i + 1 : Nat) : Int) by omega]
    refine Rt.mono (ih (i + 1) j w4 a1 e1 R' d' (rs ++ [x]) (by omega) (by omega) k4 (by omega) hR4 ha1 lb4 (by rw [el]; exact lx4) (by omega) (by rw [el]; exact o4)) ?_
    rintro ⟨ex, vs, w5⟩ ⟨f1, f2, f3, f4, a', e', R2, d2, rs', f5, f6, f7, f8, f9, f10⟩
    refine ⟨f1, f2, f3, f4, a', e', R2, d2, rs', f5, f6, f7, f8, fun h => absurd rfl h, fun _ => ?_⟩
    have e0 : opsP (q + 1) zs at_ = bindP opP (fun o => bindP (opsP q) fun l => retP (o :: l)) zs at_ := rfl
    rw [e0]
    unfold bindP
    rw [← he1]
    by_cases c1 : e1 = 0
    · obtain ⟨x1, x2⟩ := hx1 c1
      obtain ⟨y1, y2⟩ := f10 c1
      rw [if_pos c1, ← x1, ← x2]
      dsimp only
      rw [← y1]
      by_cases c2 : e' = 0
      · obtain ⟨y3, y4⟩ := y2 c2
        rw [if_pos c2, ← y3]
        exact ⟨c2, fun _ => ⟨rfl, by rw [y4]; simp [retP]⟩⟩
      · rw [if_neg c2]; exact ⟨rfl, fun h => absurd h c2⟩
    · rw [if_neg c1]
      have := f9 c1
      exact ⟨this, fun h => by omega⟩
theorem Rt.al2 {β : Type} {Q : β → Prop} {t : TypeId} {a b : Value} {x y : Value} {f : World → Option β} (h : ∀ w1, Lc w1 w.heap.size [a, b] → Kp w w1 → w.heap.size < w1.heap.size → Rt (f w1) Q) :
    Rt (al w #[x, y] t fun w1 => stC w1 ⟨w.heap.size, 0, none⟩ a fun w2 => stC w2 (Addr.add ⟨w.heap.size, 0, none⟩ 1) b f) Q := by
  show Rt (stC (w.alloc (.cells [x, y].toArray t)) ⟨w.heap.size, 0, none⟩ a fun w2 => stC w2 (Addr.add ⟨w.heap.size, 0, none⟩ 1) b f) Q
  rw [sta0, sta1]
  exact h _ (Lc.new w _ t) ((Kp.rfl' w).al _) (by simp)
theorem Rt.sto2 {β : Type} {Q : β → Prop} {b : Nat} {x y a c : Value} {f : World → Option β} (hl : Lc w b [x, y]) (h : ∀ w1, Lc w1 b [a, c] → Gx (fun k => k = b) w w1 → Rt (f w1) Q) :
    Rt (stC w ⟨b, 0, none⟩ a fun w1 => stC w1 (Addr.add ⟨b, 0, none⟩ 1) c f) Q :=
  Rt.st0 hl fun w1 l1 g1 => Rt.st1 l1 fun w2 l2 g2 => h w2 l2 (g1.tr g2)
theorem takeP_wf {zs : List Int} (hz : Bytes zs) (m i : Nat) : Bytes (takeP m zs i).2.1 := by
  unfold takeP
  split
  · exact bnil
  · exact slc_wf hz _ _
theorem le4 {bs : List Int} (hb : Bytes bs) (h : bs.length = 4 ∨ bs = []) : 0 ≤ le bs ∧ le bs < 2 ^ 32 := by
  have := le_nonneg hb
  rcases h with h | h
  · rw [h] at this; omega
  · subst h; simp [le]
theorem le8 {bs : List Int} (hb : Bytes bs) (h : bs.length = 8 ∨ bs = []) : 0 ≤ le bs ∧ le bs < 2 ^ 64 := by
  have := le_nonneg hb
  rcases h with h | h
  · rw [h] at this; omega
  · subst h; simp [le]
theorem claimB {e1 e2 e3 e4 e' s cnt : Int} {i1 i2 a' : Nat} {rs' : List OpD} (hzl : zs.length = l) (he1 : e1 = (takeP 8 zs 0).1) (hp1 : e1 = 0 → i1 = (takeP 8 zs 0).2.2) (hs8 : le (takeP 8 zs 0).2.1 = s) (hkeep : e1 ≠ 0 → e2 = e1) (he2 : e1 = 0 → e2 = (takeP 4 zs i1).1 ∧ (e2 = 0 → i2 = (takeP 4 zs i1).2.2))
    (hs4 : le (if e1 = 0 then (takeP 4 zs i1).2.1 else []) = cnt) (h3 : e2 ≠ 0 → e3 = e2) (h4 : e2 = 0 → (cnt < 1 ∨ cnt > 100 ∨ ¬numC s cnt.toNat) → e3 = 2) (h5 : e2 = 0 → ¬(cnt < 1 ∨ cnt > 100 ∨ ¬numC s cnt.toNat) → e3 = 0)
    (f9 : e3 ≠ 0 → e' = e3) (f10 : e3 = 0 → e' = (opsP cnt.toNat zs i2).1 ∧ (e' = 0 → a' = (opsP cnt.toNat zs i2).2.2 ∧ rs' = (opsP cnt.toNat zs i2).2.1)) (he4 : (if e' = 0 ∧ a' < l then 2 else e') = e4) (ha' : a' ≤ l) :
    (e4 = 0 → allP batchP zs = (0, s, rs')) ∧ (e4 ≠ 0 → allP batchP zs = (e4, 0, [])) := by
  have key : (e' ≠ 0 → (batchP zs 0).1 = e') ∧ (e' = 0 → batchP zs 0 = (0, (s, rs'), a')) := by
    unfold batchP
    by_cases c1 : e1 = 0
    · obtain ⟨he2, hp2⟩ := he2 c1
      rw [if_pos c1] at hs4
      have t1 : takeP 8 zs 0 = (0, (takeP 8 zs 0).2.1, i1) := by rw [hp1 c1]; exact triple (by omega)
      by_cases c2 : e2 = 0
      · have t2 : takeP 4 zs i1 = (0, (takeP 4 zs i1).2.1, i2) := by rw [hp2 c2]; exact triple (by omega)
        unfold bindP
        rw [t1]
        dsimp only
        rw [if_pos rfl, t2]
        dsimp only
        rw [if_pos rfl, hs8, hs4]
        by_cases c3 : cnt < 1 ∨ cnt > 100 ∨ ¬numC s cnt.toNat
        · have e30 := h4 c2 c3
          have e31 := f9 (by omega)
          rw [if_pos c3]
          exact ⟨fun _ => by show 2 = e'; omega, fun h => by omega⟩
        · have e30 := h5 c2 c3
          obtain ⟨e31, e32⟩ := f10 e30
          rw [if_neg c3]
          rw [← e31]
          by_cases c4 : e' = 0
          · obtain ⟨e33, e34⟩ := e32 c4
            rw [if_pos c4, ← e33, ← e34]
            exact ⟨fun h => absurd c4 h, fun _ => rfl⟩
          · rw [if_neg c4]; exact ⟨fun _ => rfl, fun h => absurd h c4⟩
      · have e30 := h3 c2
        have e31 := f9 (by omega)
        unfold bindP
        rw [t1]
        dsimp only
        rw [if_pos rfl, if_neg (by omega)]
        exact ⟨fun _ => by show (takeP 4 zs i1).1 = e'; omega, fun h => by omega⟩
    · have e20 := hkeep c1
      have e30 := h3 (by omega)
      have e31 := f9 (by omega)
      unfold bindP
      rw [if_neg (by omega)]
      exact ⟨fun _ => by show (takeP 8 zs 0).1 = e'; omega, fun h => by omega⟩
  unfold allP
  by_cases c : e' = 0
  · rw [key.2 c]
    dsimp only
    rw [if_neg (by simp)]
    by_cases c2 : a' < l
    · rw [if_pos ⟨c, c2⟩] at he4
      rw [if_pos (by omega)]
      exact ⟨fun h => by omega, fun _ => by rw [← he4]; rfl⟩
    · rw [if_neg (fun h => c2 h.2)] at he4
      rw [if_neg (by omega)]
      exact ⟨fun _ => rfl, fun h => by omega⟩
  · rw [if_neg (fun h => c h.1)] at he4
    have := key.1 c
    rw [if_pos (by omega), this, he4]
    exact ⟨fun h => by omega, fun _ => rfl⟩
theorem Read_spec (hb : Bv .u8 w A l c zs) (hl : l ≤ 2 ^ 38) (hn : 2 ^ 59 < n) : Rt (batch_Read n [.slice A l c] w) (RBat w (allP batchP zs)) := by
  have hzl := hb.len
  rw [batch_Read_eq]
  refine Rt.fin (Rt.al fun w1 lb0 k1 s1 => Rt.al fun w2 hr2 k2 s2 => ?_)
  have k02 := k1.tr k2
  have lb0 := lb0.kp k2
  refine Rt.call (number_spec (n := n) (m := 8) (i := 0) (e := 0) hr2 k02.gx (Nat.le_of_lt s1) hb (Nat.zero_le _) (by decide) hl (by omega)) ?_
  rintro vs w3 ⟨w3', i1, e1, hr1, hr3, hi1, g3, _, he1⟩
  cases hr1
  obtain ⟨he1, hp1⟩ := he1 rfl
  rw [if_pos rfl]
  have k03 : Kp w w3 := k02.tx g3 fun j hj => by omega
  have lb0 := lb0.gx g3 (by omega)
  have hs3 := g3.size
  have hv8 : 0 ≤ le (takeP 8 zs 0).2.1 ∧ le (takeP 8 zs 0).2.1 < 2 ^ 64 := by
    refine le8 (takeP_wf hb.rng _ _) ?_
    unfold takeP
    split
    · right; rfl
    · left; simp [slc]; omega
  generalize hs8 : le (takeP 8 zs 0).2.1 = s at hv8
  (repeat (first | (with_reducible (first | refine Rt.fin ?_ | refine Rt.tL ?_ | refine Rt.tI ?_ | refine Rt.tB ?_ | refine Rt.tS ?_ | refine Rt.tP ?_ | refine Rt.tD ?_ | refine Rt.tM ?_ | refine Rt.tC ?_ | refine Rt.tN ?_ | refine Rt.tA ?_ | refine Rt.tG ?_ | refine Rt.tF ?_ | refine Rt.os ?_ | refine Rt.clS ?_ | refine Rt.jmN ?_ | refine Rt.jbN ?_ | refine Rt.jbE ?_)) | ((with_reducible (first | apply Rt.ld0 | apply Rt.ld1 | apply Rt.ld2 | apply Rt.ld3 | apply Rt.ld4 | apply Rt.ld5)); first | assumption | exact Lc.kp (by assumption) (by assumption)) | ((with_reducible apply Rt.ol); first | assumption | exact cell_kp (by assumption) (by assumption)) | ((with_reducible apply Rt.ckR); focus ((repeat (first | (with_reducible (first | refine Rt.fin ?_ | refine Rt.tL ?_ | refine Rt.tI ?_ | refine Rt.tB ?_ | refine Rt.tS ?_ | refine Rt.tP ?_ | refine Rt.tD ?_ | refine Rt.tM ?_ | refine Rt.tC ?_ | refine Rt.tN ?_ | refine Rt.tA ?_ | refine Rt.tG ?_ | refine Rt.tF ?_ | refine Rt.os ?_ | refine Rt.clS ?_ | refine Rt.jmN ?_ | refine Rt.jbN ?_ | refine Rt.jbE ?_)) | ((with_reducible (first | apply Rt.ld0 | apply Rt.ld1 | apply Rt.ld2 | apply Rt.ld3 | apply Rt.ld4 | apply Rt.ld5)); first | assumption | exact Lc.kp (by assumption) (by assumption)) | ((with_reducible apply Rt.ol); first | assumption | exact cell_kp (by assumption) (by assumption)))); exact Rt.some' rfl))))
  refine Rt.al2 fun w4 lxb k4 s4 => ?_
  have hr4 := Lc.kp hr3 k4
  have lb0 := lb0.kp k4
  have k04 := k03.tr k4
  refine Rt.call (number_spec (n := n) (m := 4) hr4 k04.gx (Nat.le_of_lt s1) hb hi1 (by decide) hl (by omega)) ?_
  rintro vs w5 ⟨w5', i2, e2, hr1, hr5, hi2, g5, hkeep, he2⟩
  cases hr1
  have k05 : Kp w w5 := k04.tx g5 fun j hj => by omega
  have lb0 := lb0.gx g5 (by omega)
  have lxb := lxb.gx g5 (by omega)
  have hs4 := k4.size
  have hs5 := g5.size
  have hv4 : 0 ≤ le (if e1 = 0 then (takeP 4 zs i1).2.1 else []) ∧ le (if e1 = 0 then (takeP 4 zs i1).2.1 else []) < 2 ^ 32 := by
    by_cases h : e1 = 0
    · rw [if_pos h]
      refine le4 (takeP_wf hb.rng _ _) ?_
      unfold takeP
      split
      · right; rfl
      · left; simp [slc]; omega
    · rw [if_neg h]; simp [le]
  generalize hs4' : le (if e1 = 0 then (takeP 4 zs i1).2.1 else []) = cnt at hv4
  generalize hR : w1.heap.size = p at *
  generalize hX : w3.heap.size = xb at *
  generalize hB : w.heap.size = b0 at *
  (repeat (first | (with_reducible (first | refine Rt.fin ?_ | refine Rt.tL ?_ | refine Rt.tI ?_ | refine Rt.tB ?_ | refine Rt.tS ?_ | refine Rt.tP ?_ | refine Rt.tD ?_ | refine Rt.tM ?_ | refine Rt.tC ?_ | refine Rt.tN ?_ | refine Rt.tA ?_ | refine Rt.tG ?_ | refine Rt.tF ?_ | refine Rt.os ?_ | refine Rt.clS ?_ | refine Rt.jmN ?_ | refine Rt.jbN ?_ | refine Rt.jbE ?_)) | ((with_reducible (first | apply Rt.ld0 | apply Rt.ld1 | apply Rt.ld2 | apply Rt.ld3 | apply Rt.ld4 | apply Rt.ld5)); first | assumption | exact Lc.kp (by assumption) (by assumption)) | ((with_reducible apply Rt.ol); first | assumption | exact cell_kp (by assumption) (by assumption)) | ((with_reducible apply Rt.ckR); focus ((repeat (first | (with_reducible (first | refine Rt.fin ?_ | refine Rt.tL ?_ | refine Rt.tI ?_ | refine Rt.tB ?_ | refine Rt.tS ?_ | refine Rt.tP ?_ | refine Rt.tD ?_ | refine Rt.tM ?_ | refine Rt.tC ?_ | refine Rt.tN ?_ | refine Rt.tA ?_ | refine Rt.tG ?_ | refine Rt.tF ?_ | refine Rt.os ?_ | refine Rt.clS ?_ | refine Rt.jmN ?_ | refine Rt.jbN ?_ | refine Rt.jbE ?_)) | ((with_reducible (first | apply Rt.ld0 | apply Rt.ld1 | apply Rt.ld2 | apply Rt.ld3 | apply Rt.ld4 | apply Rt.ld5)); first | assumption | exact Lc.kp (by assumption) (by assumption)) | ((with_reducible apply Rt.ol); first | assumption | exact cell_kp (by assumption) (by assumption)))); exact Rt.some' rfl))))
  refine Rt.jm (Rt.mono (Q' := fun r => r.ex = .norm ∧ r.vals = [.slice A l c, .pointer (some ⟨b0, 0, none⟩), .pointer (some ⟨p, 0, none⟩), .pointer (some ⟨xb, 0, none⟩), .int .u64 cnt] ∧ Kp w r.w ∧ Lc r.w b0 [.int .u64 0, .slice none 0 0] ∧ Lc r.w xb [.int .u64 s, .slice none 0 0] ∧
      ∃ e3, Rd r.w p A l c i2 e3 ∧ (e2 ≠ 0 → e3 = e2) ∧ (e2 = 0 → (cnt < 1 ∨ cnt > 100 ∨ ¬numC s cnt.toNat) → e3 = 2) ∧ (e2 = 0 → ¬(cnt < 1 ∨ cnt > 100 ∨ ¬numC s cnt.toNat) → e3 = 0)) ?_ ?_)
  · (repeat (first | (with_reducible (first | refine Rt.fin ?_ | refine Rt.tL ?_ | refine Rt.tI ?_ | refine Rt.tB ?_ | refine Rt.tS ?_ | refine Rt.tP ?_ | refine Rt.tD ?_ | refine Rt.tM ?_ | refine Rt.tC ?_ | refine Rt.tN ?_ | refine Rt.tA ?_ | refine Rt.tG ?_ | refine Rt.tF ?_ | refine Rt.os ?_ | refine Rt.clS ?_ | refine Rt.jmN ?_ | refine Rt.jbN ?_ | refine Rt.jbE ?_)) | ((with_reducible (first | apply Rt.ld0 | apply Rt.ld1 | apply Rt.ld2 | apply Rt.ld3 | apply Rt.ld4 | apply Rt.ld5)); first | assumption | exact Lc.kp (by assumption) (by assumption)) | ((with_reducible apply Rt.ol); first | assumption | exact cell_kp (by assumption) (by assumption)) | ((with_reducible apply Rt.ckR); focus ((repeat (first | (with_reducible (first | refine Rt.fin ?_ | refine Rt.tL ?_ | refine Rt.tI ?_ | refine Rt.tB ?_ | refine Rt.tS ?_ | refine Rt.tP ?_ | refine Rt.tD ?_ | refine Rt.tM ?_ | refine Rt.tC ?_ | refine Rt.tN ?_ | refine Rt.tA ?_ | refine Rt.tG ?_ | refine Rt.tF ?_ | refine Rt.os ?_ | refine Rt.clS ?_ | refine Rt.jmN ?_ | refine Rt.jbN ?_ | refine Rt.jbE ?_)) | ((with_reducible (first | apply Rt.ld0 | apply Rt.ld1 | apply Rt.ld2 | apply Rt.ld3 | apply Rt.ld4 | apply Rt.ld5)); first | assumption | exact Lc.kp (by assumption) (by assumption)) | ((with_reducible apply Rt.ol); first | assumption | exact cell_kp (by assumption) (by assumption)))); exact Rt.some' rfl))))
    refine Rt.cQ (fun h0 => ?_) fun h0 => Rt.some' ⟨rfl, rfl, k05, lb0, lxb, e2, hr5, fun _ => rfl, fun h => absurd h h0, fun h => absurd h h0⟩
    have store : ∀ (f : World → Option Res) (Q : Res → Prop) (w6 : World), Rd w6 p A l c i2 e2 → (∀ w7, Rd w7 p A l c i2 2 → Gx (fun k => k = p) w6 w7 → Rt (f w7) Q) → Rt (stC w6 (Addr.add ⟨p, 0, none⟩ 2) (.int .i64 2) f) Q := fun f Q w6 h hf => Rt.st2 h hf
    refine Rt.cD (fun h1 => store _ _ _ hr5 fun w6 l6 g6 => Rt.some' ⟨rfl, rfl, k05.tx g6 (fun j hj => by omega), lb0.gx g6 (by omega), lxb.gx g6 (by omega), 2, l6, fun h => absurd h0 h, fun _ _ => rfl, fun _ h => absurd (.inl h1) h⟩) fun h1 => ?_
    refine Rt.cD (fun h2 => store _ _ _ hr5 fun w6 l6 g6 => Rt.some' ⟨rfl, rfl, k05.tx g6 (fun j hj => by omega), lb0.gx g6 (by omega), lxb.gx g6 (by omega), 2, l6, fun h => absurd h0 h, fun _ _ => rfl, fun _ h => absurd (.inr (.inl h2)) h⟩) fun h2 => ?_
    (repeat (first | (with_reducible (first | refine Rt.fin ?_ | refine Rt.tL ?_ | refine Rt.tI ?_ | refine Rt.tB ?_ | refine Rt.tS ?_ | refine Rt.tP ?_ | refine Rt.tD ?_ | refine Rt.tM ?_ | refine Rt.tC ?_ | refine Rt.tN ?_ | refine Rt.tA ?_ | refine Rt.tG ?_ | refine Rt.tF ?_ | refine Rt.os ?_ | refine Rt.clS ?_ | refine Rt.jmN ?_ | refine Rt.jbN ?_ | refine Rt.jbE ?_)) | ((with_reducible (first | apply Rt.ld0 | apply Rt.ld1 | apply Rt.ld2 | apply Rt.ld3 | apply Rt.ld4 | apply Rt.ld5)); first | assumption | exact Lc.kp (by assumption) (by assumption)) | ((with_reducible apply Rt.ol); first | assumption | exact cell_kp (by assumption) (by assumption)) | ((with_reducible apply Rt.ckR); focus ((repeat (first | (with_reducible (first | refine Rt.fin ?_ | refine Rt.tL ?_ | refine Rt.tI ?_ | refine Rt.tB ?_ | refine Rt.tS ?_ | refine Rt.tP ?_ | refine Rt.tD ?_ | refine Rt.tM ?_ | refine Rt.tC ?_ | refine Rt.tN ?_ | refine Rt.tA ?_ | refine Rt.tG ?_ | refine Rt.tF ?_ | refine Rt.os ?_ | refine Rt.clS ?_ | refine Rt.jmN ?_ | refine Rt.jbN ?_ | refine Rt.jbE ?_)) | ((with_reducible (first | apply Rt.ld0 | apply Rt.ld1 | apply Rt.ld2 | apply Rt.ld3 | apply Rt.ld4 | apply Rt.ld5)); first | assumption | exact Lc.kp (by assumption) (by assumption)) | ((with_reducible apply Rt.ol); first | assumption | exact cell_kp (by assumption) (by assumption)))); exact Rt.some' rfl))))
    have hcn : IntKind.i64.wrap cnt = ((cnt.toNat : Nat) : Int) := by rw [i64_in _ (by omega)]; omega
    rw [hcn]
    refine Rt.cBo (numbered_spec hv8 (by omega) (by omega)) fun b w6 hb6 k6 => ?_
    have hr6 := Lc.kp hr5 k6
    cases b with
    | false =>
      refine Rt.cT rfl (store _ _ _ hr6 fun w7 l7 g7 => Rt.some' ⟨rfl, rfl, (k05.tr k6).tx g7 (fun j hj => by omega), (lb0.kp k6).gx g7 (by omega), (lxb.kp k6).gx g7 (by omega), 2, l7, fun h => absurd h0 h, fun _ _ => rfl, fun _ h => absurd (.inr (.inr fun h' => by simpa using hb6.2 h')) h⟩)
    | true => exact Rt.cF rfl (Rt.some' ⟨rfl, rfl, k05.tr k6, lb0.kp k6, lxb.kp k6, e2, hr6, fun _ => rfl, fun _ h => by rcases h with h | h | h; exact absurd h h1; exact absurd h h2; exact absurd (hb6.1 rfl) h, fun h _ => h⟩)
  · rintro ⟨ex, vs, w6⟩ ⟨h1, h2, k06, lb0, lxb, e3, hr6, h3, h4, h5⟩
    dsimp only at h1 h2 k06 lb0 lxb hr6
    subst h1 h2
    refine ⟨rfl, ?_⟩
    dsimp only
    have hxl := lxb.lt
    (repeat (first | (with_reducible (first | refine Rt.fin ?_ | refine Rt.tL ?_ | refine Rt.tI ?_ | refine Rt.tB ?_ | refine Rt.tS ?_ | refine Rt.tP ?_ | refine Rt.tD ?_ | refine Rt.tM ?_ | refine Rt.tC ?_ | refine Rt.tN ?_ | refine Rt.tA ?_ | refine Rt.tG ?_ | refine Rt.tF ?_ | refine Rt.os ?_ | refine Rt.clS ?_ | refine Rt.jmN ?_ | refine Rt.jbN ?_ | refine Rt.jbE ?_)) | ((with_reducible (first | apply Rt.ld0 | apply Rt.ld1 | apply Rt.ld2 | apply Rt.ld3 | apply Rt.ld4 | apply Rt.ld5)); first | assumption | exact Lc.kp (by assumption) (by assumption)) | ((with_reducible apply Rt.ol); first | assumption | exact cell_kp (by assumption) (by assumption)) | ((with_reducible apply Rt.ckR); focus ((repeat (first | (with_reducible (first | refine Rt.fin ?_ | refine Rt.tL ?_ | refine Rt.tI ?_ | refine Rt.tB ?_ | refine Rt.tS ?_ | refine Rt.tP ?_ | refine Rt.tD ?_ | refine Rt.tM ?_ | refine Rt.tC ?_ | refine Rt.tN ?_ | refine Rt.tA ?_ | refine Rt.tG ?_ | refine Rt.tF ?_ | refine Rt.os ?_ | refine Rt.clS ?_ | refine Rt.jmN ?_ | refine Rt.jbN ?_ | refine Rt.jbE ?_)) | ((with_reducible (first | apply Rt.ld0 | apply Rt.ld1 | apply Rt.ld2 | apply Rt.ld3 | apply Rt.ld4 | apply Rt.ld5)); first | assumption | exact Lc.kp (by assumption) (by assumption)) | ((with_reducible apply Rt.ol); first | assumption | exact cell_kp (by assumption) (by assumption)))); exact Rt.some' rfl))))
    refine Rt.jb (Rt.mono (Q' := fun r => r.ex = .exit 0 ∧ r.vals = [.slice A l c, .pointer (some ⟨b0, 0, none⟩), .pointer (some ⟨p, 0, none⟩), .pointer (some ⟨xb, 0, none⟩)] ∧ Kp w r.w ∧ Lc r.w b0 [.int .u64 0, .slice none 0 0] ∧
      ∃ a' e' R' d' rs', Rd r.w p A l c a' e' ∧ a' ≤ l ∧ Lc r.w xb [.int .u64 s, .slice R' (List.length rs') d'] ∧ OwnX (SX p b0 xb) opEl 30 r.w w6.heap.size (.slice R' rs'.length d') rs' ∧ (e3 ≠ 0 → e' = e3) ∧ (e3 = 0 → e' = (opsP cnt.toNat zs i2).1 ∧ (e' = 0 → a' = (opsP cnt.toNat zs i2).2.2 ∧ rs' = (opsP cnt.toNat zs i2).2.1))) ?_ ?_)
    · by_cases c3 : e3 = 0
      · have hcc : ¬(cnt < 1 ∨ cnt > 100 ∨ ¬numC s cnt.toNat) := by
          intro h
          by_cases h0 : e2 = 0
          · have := h4 h0 h; omega
          · have := h3 h0; omega
        have hcn : ((cnt.toNat : Nat) : Int) = cnt := by omega
        have hl0 := Read_l0 (n := n) (w0 := w) (p := p) (b0 := b0) (xb := xb) (base := w6.heap.size) (nn := cnt.toNat) (s := s) hb hl hn (by omega) (by omega) (by omega) (by omega) (by omega) (by omega) (by omega) hr6.lt lb0.lt lxb.lt cnt.toNat 0 n w6 i2 e3 none 0 [] (by omega) (by omega) k06 (Nat.le_refl _) hr6 hi2 lb0 lxb (by simp) (OwnX.nil _ _ _)
        rw [hcn] at hl0
        refine Rt.mono hl0 ?_
        rintro ⟨ex, vs, w7⟩ ⟨f1, f2, f3, f4, a', e', R', d', rs', f5, f6, f7, f8, f9, f10⟩
        exact ⟨f1, f2, f3, f4, a', e', R', d', rs', f5, f6, f7, f8, f9, fun h => by simpa using f10 h⟩
      · obtain ⟨n, rfl⟩ : ∃ k, n = k + 1 := ⟨n - 1, by omega⟩
        rw [show batch_Read.l0 (n + 1) (n + 1) = batch_Read.l0 (n + 1) (n + 1) from rfl, batch_Read.l0_succ]
        refine Rt.cD (fun _ => ?_) fun _ => Rt.some' ⟨rfl, rfl, k06, lb0, i2, e3, none, 0, [], hr6, hi2, lxb, OwnX.nil _ _ _, fun _ => rfl, fun h => absurd h c3⟩
        (repeat (first | (with_reducible (first | refine Rt.fin ?_ | refine Rt.tL ?_ | refine Rt.tI ?_ | refine Rt.tB ?_ | refine Rt.tS ?_ | refine Rt.tP ?_ | refine Rt.tD ?_ | refine Rt.tM ?_ | refine Rt.tC ?_ | refine Rt.tN ?_ | refine Rt.tA ?_ | refine Rt.tG ?_ | refine Rt.tF ?_ | refine Rt.os ?_ | refine Rt.clS ?_ | refine Rt.jmN ?_ | refine Rt.jbN ?_ | refine Rt.jbE ?_)) | ((with_reducible (first | apply Rt.ld0 | apply Rt.ld1 | apply Rt.ld2 | apply Rt.ld3 | apply Rt.ld4 | apply Rt.ld5)); first | assumption | exact Lc.kp (by assumption) (by assumption)) | ((with_reducible apply Rt.ol); first | assumption | exact cell_kp (by assumption) (by assumption)) | ((with_reducible apply Rt.ckR); focus ((repeat (first | (with_reducible (first | refine Rt.fin ?_ | refine Rt.tL ?_ | refine Rt.tI ?_ | refine Rt.tB ?_ | refine Rt.tS ?_ | refine Rt.tP ?_ | refine Rt.tD ?_ | refine Rt.tM ?_ | refine Rt.tC ?_ | refine Rt.tN ?_ | refine Rt.tA ?_ | refine Rt.tG ?_ | refine Rt.tF ?_ | refine Rt.os ?_ | refine Rt.clS ?_ | refine Rt.jmN ?_ | refine Rt.jbN ?_ | refine Rt.jbE ?_)) | ((with_reducible (first | apply Rt.ld0 | apply Rt.ld1 | apply Rt.ld2 | apply Rt.ld3 | apply Rt.ld4 | apply Rt.ld5)); first | assumption | exact Lc.kp (by assumption) (by assumption)) | ((with_reducible apply Rt.ol); first | assumption | exact cell_kp (by assumption) (by assumption)))); exact Rt.some' rfl))))
        exact Rt.cQ (fun h => absurd h c3) fun _ => Rt.some' ⟨rfl, rfl, k06, lb0, i2, e3, none, 0, [], hr6, hi2, lxb, OwnX.nil _ _ _, fun _ => rfl, fun h => absurd h c3⟩
    · rintro ⟨ex, vs, w7⟩ ⟨f1, f2, k07, lb0, a', e', R', d', rs', hr7, ha', lxb, oR, f9, f10⟩
      dsimp only at f1 f2 k07 lb0 hr7 lxb oR
      subst f1 f2
      refine .inl ⟨.inr rfl, ?_⟩
      dsimp only
      (repeat (first | (with_reducible (first | refine Rt.fin ?_ | refine Rt.tL ?_ | refine Rt.tI ?_ | refine Rt.tB ?_ | refine Rt.tS ?_ | refine Rt.tP ?_ | refine Rt.tD ?_ | refine Rt.tM ?_ | refine Rt.tC ?_ | refine Rt.tN ?_ | refine Rt.tA ?_ | refine Rt.tG ?_ | refine Rt.tF ?_ | refine Rt.os ?_ | refine Rt.clS ?_ | refine Rt.jmN ?_ | refine Rt.jbN ?_ | refine Rt.jbE ?_)) | ((with_reducible (first | apply Rt.ld0 | apply Rt.ld1 | apply Rt.ld2 | apply Rt.ld3 | apply Rt.ld4 | apply Rt.ld5)); first | assumption | exact Lc.kp (by assumption) (by assumption)) | ((with_reducible apply Rt.ol); first | assumption | exact cell_kp (by assumption) (by assumption)) | ((with_reducible apply Rt.ckR); focus ((repeat (first | (with_reducible (first | refine Rt.fin ?_ | refine Rt.tL ?_ | refine Rt.tI ?_ | refine Rt.tB ?_ | refine Rt.tS ?_ | refine Rt.tP ?_ | refine Rt.tD ?_ | refine Rt.tM ?_ | refine Rt.tC ?_ | refine Rt.tN ?_ | refine Rt.tA ?_ | refine Rt.tG ?_ | refine Rt.tF ?_ | refine Rt.os ?_ | refine Rt.clS ?_ | refine Rt.jmN ?_ | refine Rt.jbN ?_ | refine Rt.jbE ?_)) | ((with_reducible (first | apply Rt.ld0 | apply Rt.ld1 | apply Rt.ld2 | apply Rt.ld3 | apply Rt.ld4 | apply Rt.ld5)); first | assumption | exact Lc.kp (by assumption) (by assumption)) | ((with_reducible apply Rt.ol); first | assumption | exact cell_kp (by assumption) (by assumption)))); exact Rt.some' rfl))))
      refine Rt.jm (Rt.mono (Q' := fun r => r.ex = .norm ∧ r.vals = [.pointer (some ⟨b0, 0, none⟩), .pointer (some ⟨p, 0, none⟩), .pointer (some ⟨xb, 0, none⟩)] ∧ Kp w r.w ∧ Lc r.w b0 [.int .u64 0, .slice none 0 0] ∧ Rd r.w p A l c a' (if e' = 0 ∧ a' < l then 2 else e') ∧ Lc r.w xb [.int .u64 s, .slice R' rs'.length d'] ∧
          OwnX (SX p b0 xb) opEl 30 r.w w6.heap.size (.slice R' rs'.length d') rs') ?_ ?_)
      · (repeat (first | (with_reducible (first | refine Rt.fin ?_ | refine Rt.tL ?_ | refine Rt.tI ?_ | refine Rt.tB ?_ | refine Rt.tS ?_ | refine Rt.tP ?_ | refine Rt.tD ?_ | refine Rt.tM ?_ | refine Rt.tC ?_ | refine Rt.tN ?_ | refine Rt.tA ?_ | refine Rt.tG ?_ | refine Rt.tF ?_ | refine Rt.os ?_ | refine Rt.clS ?_ | refine Rt.jmN ?_ | refine Rt.jbN ?_ | refine Rt.jbE ?_)) | ((with_reducible (first | apply Rt.ld0 | apply Rt.ld1 | apply Rt.ld2 | apply Rt.ld3 | apply Rt.ld4 | apply Rt.ld5)); first | assumption | exact Lc.kp (by assumption) (by assumption)) | ((with_reducible apply Rt.ol); first | assumption | exact cell_kp (by assumption) (by assumption)) | ((with_reducible apply Rt.ckR); focus ((repeat (first | (with_reducible (first | refine Rt.fin ?_ | refine Rt.tL ?_ | refine Rt.tI ?_ | refine Rt.tB ?_ | refine Rt.tS ?_ | refine Rt.tP ?_ | refine Rt.tD ?_ | refine Rt.tM ?_ | refine Rt.tC ?_ | refine Rt.tN ?_ | refine Rt.tA ?_ | refine Rt.tG ?_ | refine Rt.tF ?_ | refine Rt.os ?_ | refine Rt.clS ?_ | refine Rt.jmN ?_ | refine Rt.jbN ?_ | refine Rt.jbE ?_)) | ((with_reducible (first | apply Rt.ld0 | apply Rt.ld1 | apply Rt.ld2 | apply Rt.ld3 | apply Rt.ld4 | apply Rt.ld5)); first | assumption | exact Lc.kp (by assumption) (by assumption)) | ((with_reducible apply Rt.ol); first | assumption | exact cell_kp (by assumption) (by assumption)))); exact Rt.some' rfl))))
        refine Rt.cQ (fun h0 => ?_) fun h0 => Rt.some' ⟨rfl, rfl, k07, lb0, by rw [if_neg (fun h => h0 h.1)]; exact hr7, lxb, oR⟩
        (repeat (first | (with_reducible (first | refine Rt.fin ?_ | refine Rt.tL ?_ | refine Rt.tI ?_ | refine Rt.tB ?_ | refine Rt.tS ?_ | refine Rt.tP ?_ | refine Rt.tD ?_ | refine Rt.tM ?_ | refine Rt.tC ?_ | refine Rt.tN ?_ | refine Rt.tA ?_ | refine Rt.tG ?_ | refine Rt.tF ?_ | refine Rt.os ?_ | refine Rt.clS ?_ | refine Rt.jmN ?_ | refine Rt.jbN ?_ | refine Rt.jbE ?_)) | ((with_reducible (first | apply Rt.ld0 | apply Rt.ld1 | apply Rt.ld2 | apply Rt.ld3 | apply Rt.ld4 | apply Rt.ld5)); first | assumption | exact Lc.kp (by assumption) (by assumption)) | ((with_reducible apply Rt.ol); first | assumption | exact cell_kp (by assumption) (by assumption)) | ((with_reducible apply Rt.ckR); focus ((repeat (first | (with_reducible (first | refine Rt.fin ?_ | refine Rt.tL ?_ | refine Rt.tI ?_ | refine Rt.tB ?_ | refine Rt.tS ?_ | refine Rt.tP ?_ | refine Rt.tD ?_ | refine Rt.tM ?_ | refine Rt.tC ?_ | refine Rt.tN ?_ | refine Rt.tA ?_ | refine Rt.tG ?_ | refine Rt.tF ?_ | refine Rt.os ?_ | refine Rt.clS ?_ | refine Rt.jmN ?_ | refine Rt.jbN ?_ | refine Rt.jbE ?_)) | ((with_reducible (first | apply Rt.ld0 | apply Rt.ld1 | apply Rt.ld2 | apply Rt.ld3 | apply Rt.ld4 | apply Rt.ld5)); first | assumption | exact Lc.kp (by assumption) (by assumption)) | ((with_reducible apply Rt.ol); first | assumption | exact cell_kp (by assumption) (by assumption)))); exact Rt.some' rfl))))
        refine Rt.cD (fun h1 => ?_) fun h1 => Rt.some' ⟨rfl, rfl, k07, lb0, by rw [if_neg (fun h => h1 (by omega))]; exact hr7, lxb, oR⟩
        refine Rt.st2 hr7 fun w8 l8 g8 => Rt.some' ⟨rfl, rfl, k07.tx g8 (fun j hj => by omega), lb0.gx g8 (by omega), by rw [if_pos ⟨h0, by omega⟩]; exact l8, lxb.gx g8 (by omega), oR.gx g8 (fun k _ h => .inl (Nat.le_of_eq h)) fun k hk hv => by have := (oR.lt _ hv).1; have := hr6.lt; omega⟩
      · rintro ⟨ex, vs, w8⟩ ⟨g1, g2, k08, lb0, hr8, lxb, oR⟩
        dsimp only at g1 g2 k08 lb0 hr8 lxb oR
        subst g1 g2
        refine ⟨rfl, ?_⟩
        dsimp only
        generalize he4 : (if e' = 0 ∧ a' < l then 2 else e') = e4 at hr8
        have claim : (e4 = 0 → allP batchP zs = (0, s, rs')) ∧ (e4 ≠ 0 → allP batchP zs = (e4, 0, [])) :=
          claimB hzl he1 hp1 hs8 hkeep he2 hs4' h3 h4 h5 f9 f10 he4 ha'
        (repeat (first | (with_reducible (first | refine Rt.fin ?_ | refine Rt.tL ?_ | refine Rt.tI ?_ | refine Rt.tB ?_ | refine Rt.tS ?_ | refine Rt.tP ?_ | refine Rt.tD ?_ | refine Rt.tM ?_ | refine Rt.tC ?_ | refine Rt.tN ?_ | refine Rt.tA ?_ | refine Rt.tG ?_ | refine Rt.tF ?_ | refine Rt.os ?_ | refine Rt.clS ?_ | refine Rt.jmN ?_ | refine Rt.jbN ?_ | refine Rt.jbE ?_)) | ((with_reducible (first | apply Rt.ld0 | apply Rt.ld1 | apply Rt.ld2 | apply Rt.ld3 | apply Rt.ld4 | apply Rt.ld5)); first | assumption | exact Lc.kp (by assumption) (by assumption)) | ((with_reducible apply Rt.ol); first | assumption | exact cell_kp (by assumption) (by assumption)) | ((with_reducible apply Rt.ckR); focus ((repeat (first | (with_reducible (first | refine Rt.fin ?_ | refine Rt.tL ?_ | refine Rt.tI ?_ | refine Rt.tB ?_ | refine Rt.tS ?_ | refine Rt.tP ?_ | refine Rt.tD ?_ | refine Rt.tM ?_ | refine Rt.tC ?_ | refine Rt.tN ?_ | refine Rt.tA ?_ | refine Rt.tG ?_ | refine Rt.tF ?_ | refine Rt.os ?_ | refine Rt.clS ?_ | refine Rt.jmN ?_ | refine Rt.jbN ?_ | refine Rt.jbE ?_)) | ((with_reducible (first | apply Rt.ld0 | apply Rt.ld1 | apply Rt.ld2 | apply Rt.ld3 | apply Rt.ld4 | apply Rt.ld5)); first | assumption | exact Lc.kp (by assumption) (by assumption)) | ((with_reducible apply Rt.ol); first | assumption | exact cell_kp (by assumption) (by assumption)))); exact Rt.some' rfl))))
        refine Rt.cN (fun h0 => ?_) fun h0 => ?_
        · (repeat (first | (with_reducible (first | refine Rt.fin ?_ | refine Rt.tL ?_ | refine Rt.tI ?_ | refine Rt.tB ?_ | refine Rt.tS ?_ | refine Rt.tP ?_ | refine Rt.tD ?_ | refine Rt.tM ?_ | refine Rt.tC ?_ | refine Rt.tN ?_ | refine Rt.tA ?_ | refine Rt.tG ?_ | refine Rt.tF ?_ | refine Rt.os ?_ | refine Rt.clS ?_ | refine Rt.jmN ?_ | refine Rt.jbN ?_ | refine Rt.jbE ?_)) | ((with_reducible (first | apply Rt.ld0 | apply Rt.ld1 | apply Rt.ld2 | apply Rt.ld3 | apply Rt.ld4 | apply Rt.ld5)); first | assumption | exact Lc.kp (by assumption) (by assumption)) | ((with_reducible apply Rt.ol); first | assumption | exact cell_kp (by assumption) (by assumption)) | ((with_reducible apply Rt.ckR); focus ((repeat (first | (with_reducible (first | refine Rt.fin ?_ | refine Rt.tL ?_ | refine Rt.tI ?_ | refine Rt.tB ?_ | refine Rt.tS ?_ | refine Rt.tP ?_ | refine Rt.tD ?_ | refine Rt.tM ?_ | refine Rt.tC ?_ | refine Rt.tN ?_ | refine Rt.tA ?_ | refine Rt.tG ?_ | refine Rt.tF ?_ | refine Rt.os ?_ | refine Rt.clS ?_ | refine Rt.jmN ?_ | refine Rt.jbN ?_ | refine Rt.jbE ?_)) | ((with_reducible (first | apply Rt.ld0 | apply Rt.ld1 | apply Rt.ld2 | apply Rt.ld3 | apply Rt.ld4 | apply Rt.ld5)); first | assumption | exact Lc.kp (by assumption) (by assumption)) | ((with_reducible apply Rt.ol); first | assumption | exact cell_kp (by assumption) (by assumption)))); exact Rt.some' rfl))))
          refine Rt.sto2 lb0 fun w9 lb0 g9 => ?_
          (repeat (first | (with_reducible (first | refine Rt.fin ?_ | refine Rt.tL ?_ | refine Rt.tI ?_ | refine Rt.tB ?_ | refine Rt.tS ?_ | refine Rt.tP ?_ | refine Rt.tD ?_ | refine Rt.tM ?_ | refine Rt.tC ?_ | refine Rt.tN ?_ | refine Rt.tA ?_ | refine Rt.tG ?_ | refine Rt.tF ?_ | refine Rt.os ?_ | refine Rt.clS ?_ | refine Rt.jmN ?_ | refine Rt.jbN ?_ | refine Rt.jbE ?_)) | ((with_reducible (first | apply Rt.ld0 | apply Rt.ld1 | apply Rt.ld2 | apply Rt.ld3 | apply Rt.ld4 | apply Rt.ld5)); first | assumption | exact Lc.kp (by assumption) (by assumption)) | ((with_reducible apply Rt.ol); first | assumption | exact cell_kp (by assumption) (by assumption)) | ((with_reducible apply Rt.ckR); focus ((repeat (first | (with_reducible (first | refine Rt.fin ?_ | refine Rt.tL ?_ | refine Rt.tI ?_ | refine Rt.tB ?_ | refine Rt.tS ?_ | refine Rt.tP ?_ | refine Rt.tD ?_ | refine Rt.tM ?_ | refine Rt.tC ?_ | refine Rt.tN ?_ | refine Rt.tA ?_ | refine Rt.tG ?_ | refine Rt.tF ?_ | refine Rt.os ?_ | refine Rt.clS ?_ | refine Rt.jmN ?_ | refine Rt.jbN ?_ | refine Rt.jbE ?_)) | ((with_reducible (first | apply Rt.ld0 | apply Rt.ld1 | apply Rt.ld2 | apply Rt.ld3 | apply Rt.ld4 | apply Rt.ld5)); first | assumption | exact Lc.kp (by assumption) (by assumption)) | ((with_reducible apply Rt.ol); first | assumption | exact cell_kp (by assumption) (by assumption)))); exact Rt.some' rfl))))
          have := claim.1 h0
          refine Rt.some' ⟨rfl, R', d', w9, by rw [this], ?_, k08.tx g9 fun j hj => by omega⟩
          rw [this]
          have hX := oR.gx g9 (fun k _ h => .inr (.inl (Nat.le_of_eq h))) fun k hk hv => by have h' : k = b0 := hk; have := (oR.lt _ hv).1; have := hxl; omega
          exact OwnX.mono (OwnX.less hX fun k (hk : k < w.heap.size) => .inr (.inl (by omega))) (by omega)
        · have hr8' : Lc w8.drew p [.slice A l c, .int .i64 (a' : Int), .int .i64 e4] := hr8
          (repeat (first | (with_reducible (first | refine Rt.fin ?_ | refine Rt.tL ?_ | refine Rt.tI ?_ | refine Rt.tB ?_ | refine Rt.tS ?_ | refine Rt.tP ?_ | refine Rt.tD ?_ | refine Rt.tM ?_ | refine Rt.tC ?_ | refine Rt.tN ?_ | refine Rt.tA ?_ | refine Rt.tG ?_ | refine Rt.tF ?_ | refine Rt.os ?_ | refine Rt.clS ?_ | refine Rt.jmN ?_ | refine Rt.jbN ?_ | refine Rt.jbE ?_)) | ((with_reducible (first | apply Rt.ld0 | apply Rt.ld1 | apply Rt.ld2 | apply Rt.ld3 | apply Rt.ld4 | apply Rt.ld5)); first | assumption | exact Lc.kp (by assumption) (by assumption)) | ((with_reducible apply Rt.ol); first | assumption | exact cell_kp (by assumption) (by assumption)) | ((with_reducible apply Rt.ckR); focus ((repeat (first | (with_reducible (first | refine Rt.fin ?_ | refine Rt.tL ?_ | refine Rt.tI ?_ | refine Rt.tB ?_ | refine Rt.tS ?_ | refine Rt.tP ?_ | refine Rt.tD ?_ | refine Rt.tM ?_ | refine Rt.tC ?_ | refine Rt.tN ?_ | refine Rt.tA ?_ | refine Rt.tG ?_ | refine Rt.tF ?_ | refine Rt.os ?_ | refine Rt.clS ?_ | refine Rt.jmN ?_ | refine Rt.jbN ?_ | refine Rt.jbE ?_)) | ((with_reducible (first | apply Rt.ld0 | apply Rt.ld1 | apply Rt.ld2 | apply Rt.ld3 | apply Rt.ld4 | apply Rt.ld5)); first | assumption | exact Lc.kp (by assumption) (by assumption)) | ((with_reducible apply Rt.ol); first | assumption | exact cell_kp (by assumption) (by assumption)))); exact Rt.some' rfl))))
          refine Rt.sto2 (w := w8.drew) lb0 fun w9 lb0 g9 => ?_
          have hr9 := Lc.gx hr8' g9 (by omega)
          (repeat (first | (with_reducible (first | refine Rt.fin ?_ | refine Rt.tL ?_ | refine Rt.tI ?_ | refine Rt.tB ?_ | refine Rt.tS ?_ | refine Rt.tP ?_ | refine Rt.tD ?_ | refine Rt.tM ?_ | refine Rt.tC ?_ | refine Rt.tN ?_ | refine Rt.tA ?_ | refine Rt.tG ?_ | refine Rt.tF ?_ | refine Rt.os ?_ | refine Rt.clS ?_ | refine Rt.jmN ?_ | refine Rt.jbN ?_ | refine Rt.jbE ?_)) | ((with_reducible (first | apply Rt.ld0 | apply Rt.ld1 | apply Rt.ld2 | apply Rt.ld3 | apply Rt.ld4 | apply Rt.ld5)); first | assumption | exact Lc.kp (by assumption) (by assumption)) | ((with_reducible apply Rt.ol); first | assumption | exact cell_kp (by assumption) (by assumption)) | ((with_reducible apply Rt.ckR); focus ((repeat (first | (with_reducible (first | refine Rt.fin ?_ | refine Rt.tL ?_ | refine Rt.tI ?_ | refine Rt.tB ?_ | refine Rt.tS ?_ | refine Rt.tP ?_ | refine Rt.tD ?_ | refine Rt.tM ?_ | refine Rt.tC ?_ | refine Rt.tN ?_ | refine Rt.tA ?_ | refine Rt.tG ?_ | refine Rt.tF ?_ | refine Rt.os ?_ | refine Rt.clS ?_ | refine Rt.jmN ?_ | refine Rt.jbN ?_ | refine Rt.jbE ?_)) | ((with_reducible (first | apply Rt.ld0 | apply Rt.ld1 | apply Rt.ld2 | apply Rt.ld3 | apply Rt.ld4 | apply Rt.ld5)); first | assumption | exact Lc.kp (by assumption) (by assumption)) | ((with_reducible apply Rt.ol); first | assumption | exact cell_kp (by assumption) (by assumption)))); exact Rt.some' rfl))))
          have := claim.2 h0
          refine Rt.some' ⟨rfl, none, 0, w9, by rw [this]; rfl, ?_, k08.dr.tx g9 fun j hj => by omega⟩
          rw [this]
          exact OwnX.nil _ _ _
end
end Go.Proofs.YtdcdgmiojlldaaaDoor.Ba
/- Batches: ReadBatch, the document's own. -/
namespace Go.Proofs.YtdcdgmiojlldaaaDoor.Ba
open Go Big Go.RowKit Go.IntWalk Var Low Par
set_option linter.unusedVariables false
set_option linter.unusedSimpArgs false
section
variable {α : Type} {Q : α → Prop} {n : Nat} {w w0 : World} {A B C : Option Addr} {l c m d p i : Nat} {k e : Int} {x : OpD} {xs ys : List OpD} {bs zs : List Int}
end
end Go.Proofs.YtdcdgmiojlldaaaDoor.Ba
/- Batches: ReadBatch, whole; what is read is what was written. -/
namespace Go.Proofs.YtdcdgmiojlldaaaDoor.Ba
open Go Big Go.RowKit Go.IntWalk Var Low Par
set_option linter.unusedVariables false
set_option linter.unusedSimpArgs false
section
variable {α : Type} {Q : α → Prop} {n : Nat} {w w0 : World} {A B C : Option Addr} {l c m d p i : Nat} {k e : Int} {x : OpD} {xs ys : List OpD} {bs zs : List Int}
theorem good_field (a b : Int) : Par.Good (fieldP a b) := Par.Good.bind Par.Good.num fun n => Par.Good.ite (Par.Good.fail (by decide)) (Par.Good.take _)
theorem good_op : Par.Good opP := Par.Good.bind (Par.Good.take 1) fun b => Par.Good.ite (Par.Good.fail (by decide)) (Par.Good.bind (good_field 1 256) fun key => Par.Good.ite (Par.Good.bind (good_field 0 4096) fun v => Par.Good.ret _) (Par.Good.ret _))
theorem good_ops : ∀ n : Nat, Par.Good (opsP n)
  | 0 => Par.Good.ret _
  | n + 1 => Par.Good.bind good_op fun o => Par.Good.bind (good_ops n) fun l => Par.Good.ret _
theorem enc_field {a b : Int} {v : List Int} (h1 : a ≤ v.length) (h2 : (v.length : Int) ≤ b) (h3 : v.length < 2 ^ 63) : Enc (fieldP a b) v (enc v.length ++ v) := by
  have h := Enc.num (x := (v.length : Int)) (by omega)
  rw [Int.toNat_natCast] at h
  refine Enc.bind h ?_
  rw [if_neg (by omega), Int.toNat_natCast]
  exact Enc.take rfl
theorem enc_op {o : OpD} (h : rightO o) : Enc opP o (encO o) := by
  unfold rightO at h
  obtain ⟨hk, h1, h2, h3⟩ := h
  have e0 : o.kind % 256 = o.kind := by omega
  unfold encO
  rw [e0, List.append_assoc, List.append_assoc, ← List.append_assoc (enc o.key.length)]
  refine Enc.bind (Enc.take rfl) ?_
  have ed : [o.kind].getD 0 0 = o.kind := rfl
  rw [ed, if_neg (by omega)]
  refine Enc.bind (enc_field (by omega) (by omega) (by omega)) ?_
  by_cases hk1 : o.kind = 1
  · rw [if_pos hk1, if_pos hk1]
    have := Enc.bind (g := fun v => retP (⟨1, o.key, v⟩ : OpD)) (enc_field (a := 0) (b := 4096) (v := o.val) (by omega) (by omega) (by omega)) (Enc.ret _)
    rw [List.append_nil] at this
    have eo : (⟨1, o.key, o.val⟩ : OpD) = o := by rw [← hk1]
    rw [eo] at this
    exact this
  · rw [if_neg hk1, if_neg hk1]
    have hv : o.val = [] := List.length_eq_zero_iff.1 (by omega)
    have eo : (⟨o.kind, o.key, []⟩ : OpD) = o := by rw [← hv]
    rw [eo]
    exact Enc.ret _
theorem enc_ops : ∀ {l : List OpD}, (∀ o ∈ l, rightO o) → Enc (opsP l.length) l (bodyB l)
  | [], _ => Enc.ret _
  | o :: l, h => by
    have e : bodyB (o :: l) = encO o ++ (bodyB l ++ []) := by simp [bodyB]
    rw [e]
    exact Enc.bind (enc_op (h o List.mem_cons_self)) (Enc.bind (enc_ops fun x hx => h x (List.mem_cons_of_mem _ hx)) (Enc.ret _))
open Classical in
theorem enc_batch {s : Int} {l : List OpD} (hs : 0 ≤ s ∧ s < 2 ^ 64) (hc : checkC l = 0) (hn : numC s l.length) : Enc batchP (s, l) (encB s l) := by
  obtain ⟨c1, c2, c3⟩ := checkC_ok.1 hc
  have e8 : le (lowB 8 s) = s := le_lowB 8 hs.1 (by omega)
  have e4 : le (lowB 4 (l.length : Int)) = l.length := le_lowB 4 (by omega) (by omega)
  have e : encB s l = lowB 8 s ++ (lowB 4 l.length ++ (bodyB l ++ [])) := by simp [encB]
  rw [e]
  unfold batchP
  refine Enc.bind (Enc.take (lowB_len _ _)) (Enc.bind (Enc.take (lowB_len _ _)) ?_)
  rw [e8, e4, Int.toNat_natCast, if_neg (by rintro (h | h | h); omega; omega; exact h hn)]
  exact Enc.bind (enc_ops c3) (Enc.ret _)
theorem can_field (a b : Int) (ha : 0 ≤ a) : Par.Can (fieldP a b) fun v bs => bs = enc v.length ++ v ∧ a ≤ v.length ∧ (v.length : Int) ≤ b ∧ Bytes v := by
  refine Par.Can.bind (fun n v bs => (bs = v ∧ v.length = n.toNat ∧ Bytes v) ∧ a ≤ n ∧ n ≤ b) Par.Can.num (fun n => ?_) ?_
  · exact Par.Can.ite (Par.Can.fail (by decide) fun _ _ => False) (Par.Can.take _) (fun _ _ _ h => h.elim) fun hc v bs h => ⟨h, by omega, by omega⟩
  · rintro n v p q ⟨h1, rfl⟩ ⟨⟨rfl, h3, h4⟩, h5, h6⟩
    exact ⟨by rw [h3], by omega, by omega, h4⟩
theorem can_op : Par.Can opP fun o bs => bs = encO o ∧ rightO o ∧ Bytes o.key ∧ Bytes o.val := by
  refine Par.Can.bind (fun b o bs => b.length = 1 → Bytes b → b ++ bs = encO o ∧ rightO o ∧ Bytes o.key ∧ Bytes o.val) (Par.Can.take 1) (fun b => ?_) ?_
  · refine Par.Can.ite (Par.Can.fail (by decide) fun _ _ => False) (Par.Can.bind (fun key o bs => 1 ≤ key.length → key.length ≤ 256 → Bytes key → b.length = 1 → Bytes b → ¬ b.getD 0 0 > 1 → b ++ (enc key.length ++ key) ++ bs = encO o ∧ rightO o ∧ Bytes o.key ∧ Bytes o.val) (can_field 1 256 (by decide)) (fun key => ?_) ?_) (fun _ _ _ h => h.elim) ?_ (F := fun o bs => b.length = 1 → Bytes b → ¬ b.getD 0 0 > 1 → b ++ bs = encO o ∧ rightO o ∧ Bytes o.key ∧ Bytes o.val)
    · refine Par.Can.ite (Par.Can.bind (fun v o bs => o = ⟨1, key, v⟩ ∧ bs = []) (can_field 0 4096 (by decide)) (fun v => Par.Can.ret _) (F := fun o bs => ∃ v, o = ⟨1, key, v⟩ ∧ bs = enc v.length ++ v ∧ (v.length : Int) ≤ 4096 ∧ Bytes v) ?_) (Par.Can.ret _) ?_ ?_
      · rintro v o p q ⟨rfl, _, h2, h3⟩ ⟨rfl, rfl⟩
        exact ⟨v, rfl, by simp, h2, h3⟩
      · rintro hk o bs ⟨v, rfl, rfl, h2, h3⟩ h4 h5 h6 h7 h8 h9
        match b, h7 with
        | [z], _ =>
          have hz : z = 1 := hk
          subst hz
          refine ⟨?_, ⟨.inr rfl, h4, h5, by show v.length ≤ 4096; omega⟩, h6, h3⟩
          simp [encO]
      · rintro hk o bs ⟨rfl, rfl⟩ h4 h5 h6 h7 h8 h9
        match b, h7 with
        | [z], _ =>
          have hz := u8wf (h8 z List.mem_cons_self)
          have hk : ¬ z = 1 := hk
          have h9 : ¬ z > 1 := h9
          have hz0 : z = 0 := by omega
          subst hz0
          refine ⟨?_, ⟨.inl ⟨rfl, rfl⟩, h4, h5, by simp⟩, h6, bnil⟩
          simp [encO]
    · rintro key o p q ⟨rfl, h1, h2, h3⟩ h4 h5 h6 h7
      have := h4 (by omega) (by omega) h3 h5 h6 h7
      rwa [List.append_assoc] at this
    · intro hk o bs h h1 h2
      exact h h1 h2 hk
  · rintro b o p q ⟨rfl, h1, h2⟩ h
    exact h h1 h2
theorem can_ops : ∀ n : Nat, Par.Can (opsP n) fun l bs => l.length = n ∧ bs = bodyB l ∧ ∀ o ∈ l, rightO o
  | 0 => Par.Can.mono (Par.Can.ret _) fun l p ⟨h1, h2⟩ => by subst h1 h2; exact ⟨rfl, rfl, by simp⟩
  | n + 1 => by
    refine Par.Can.bind (fun o l bs => ∃ t, l = o :: t ∧ t.length = n ∧ bs = bodyB t ∧ ∀ x ∈ t, rightO x) can_op (fun o => ?_) ?_
    · refine Par.Can.bind (fun t l bs => l = o :: t ∧ bs = []) (can_ops n) (fun t => Par.Can.ret _) ?_
      rintro t l p q ⟨h1, h2, h3⟩ ⟨rfl, rfl⟩
      exact ⟨t, rfl, h1, by simp [h2], h3⟩
    · rintro o l p q ⟨rfl, h1, _⟩ ⟨t, rfl, h3, rfl, h5⟩
      refine ⟨by simp [h3], by simp [bodyB], fun x hx => ?_⟩
      rcases List.mem_cons.1 hx with rfl | hx
      · exact h1
      · exact h5 x hx
open Classical in
theorem can_batch : Par.Can batchP fun x bs => bs = encB x.1 x.2 ∧ checkC x.2 = 0 ∧ numC x.1 x.2.length ∧ (0 ≤ x.1 ∧ x.1 < 2 ^ 64) := by
  unfold batchP
  refine Par.Can.bind (fun a x bs => a.length = 8 → Bytes a → a ++ bs = encB x.1 x.2 ∧ checkC x.2 = 0 ∧ numC x.1 x.2.length ∧ (0 ≤ x.1 ∧ x.1 < 2 ^ 64)) (Par.Can.take 8) (fun a => ?_) ?_
  · refine Par.Can.bind (fun b x bs => b.length = 4 → Bytes b → a.length = 8 → Bytes a → a ++ (b ++ bs) = encB x.1 x.2 ∧ checkC x.2 = 0 ∧ numC x.1 x.2.length ∧ (0 ≤ x.1 ∧ x.1 < 2 ^ 64)) (Par.Can.take 4) (fun b => ?_) ?_
    · refine Par.Can.ite (Par.Can.fail (by decide) fun _ _ => False) (Par.Can.bind (fun l x bs => x = (le a, l) ∧ bs = []) (can_ops _) (fun l => Par.Can.ret _) (F := fun x bs => ∃ l : List OpD, x = (le a, l) ∧ bs = bodyB l ∧ l.length = (le b).toNat ∧ ∀ o ∈ l, rightO o) ?_) (fun _ _ _ h => h.elim) ?_
      · rintro l x p q ⟨h1, rfl, h3⟩ ⟨rfl, rfl⟩
        exact ⟨l, rfl, by simp, h1, h3⟩
      · rintro hc x bs ⟨l, rfl, rfl, h3, h4⟩ h5 h6 h7 h8
        have hc1 : ¬ le b < 1 := fun h => hc (.inl h)
        have hc2 : ¬ le b > 100 := fun h => hc (.inr (.inl h))
        have hc3 : numC (le a) (le b).toNat := Classical.not_not.1 fun h => hc (.inr (.inr h))
        have ha := le8 h8 (.inl h7)
        refine ⟨?_, checkC_ok.2 ⟨by show 1 ≤ l.length; omega, by show l.length ≤ 100; omega, h4⟩, by show numC (le a) l.length; rw [h3]; exact hc3, ha⟩
        show a ++ (b ++ bodyB l) = encB (le a) l
        have e1 := lowB_le h8
        have e2 := lowB_le h6
        rw [h7] at e1
        rw [h5] at e2
        rw [encB, e1, show (l.length : Int) = le b by omega, e2, List.append_assoc]
    · rintro b x p q ⟨rfl, h1, h2⟩ h h3 h4
      exact h h1 h2 h3 h4
  · rintro a x p q ⟨rfl, h1, h2⟩ h
    exact h h1 h2
end
end Go.Proofs.YtdcdgmiojlldaaaDoor.Ba
/- Batches: the laws of bytes. -/
namespace Go.Proofs.YtdcdgmiojlldaaaDoor.Ba
open Go Big Go.RowKit Go.IntWalk Var Low Par
set_option linter.unusedVariables false
set_option linter.unusedSimpArgs false
section
variable {α : Type} {Q : α → Prop} {n : Nat} {w w0 : World} {A B C : Option Addr} {l c m d p i : Nat} {k e s s' : Int} {x : OpD} {xs ys : List OpD} {bs zs : List Int}
theorem SameOps_l0 (hx : Ev opEl w A l c xs) (hy : Ev opEl w B l d ys) (hl : l < 2 ^ 62) : ∀ (q i j : Nat) (w' : World), i + q = l → q < j → Kp w w' → (xs.take i = ys.take i) →
    Rt (butteryref1_SameOps.l0 n j A l c B l d (i : Int) w') fun r => Kp w r.w ∧ (r.ex = .exit 0 ∧ r.vals = [] ∧ xs = ys ∨ r.ex = .ret ∧ r.vals = [.bool false] ∧ xs ≠ ys) := by
  intro q
  have hxl := hx.len
  have hyl := hy.len
  induction q with
  | zero =>
    intro i j w' hi hj hk hr
    obtain ⟨j, rfl⟩ : ∃ j', j = j' + 1 := ⟨j - 1, by omega⟩
    rw [butteryref1_SameOps.l0_succ]
    exact Rt.cDF (by omega) (Rt.some' ⟨hk, .inl ⟨rfl, rfl, by rwa [List.take_of_length_le (by omega), List.take_of_length_le (by omega)] at hr⟩⟩)
  | succ q ih =>
    intro i j w' hi hj hk hr
    obtain ⟨j, rfl⟩ : ∃ j', j = j' + 1 := ⟨j - 1, by omega⟩
    rw [butteryref1_SameOps.l0_succ]
    have hkd := hk.dr
    have same : ∀ {a a' : OpD}, xs[i]? = some a → xs[(i : Int).toNat]? = some a' → a' = a := fun h1 h2 => by rw [Int.toNat_natCast, h1] at h2; injection h2 with h2; exact h2.symm
    have same' : ∀ {a a' : OpD}, ys[i]? = some a → ys[(i : Int).toNat]? = some a' → a' = a := fun h1 h2 => by rw [Int.toNat_natCast, h1] at h2; injection h2 with h2; exact h2.symm
    have hne : ∀ {a b : OpD}, xs[i]? = some a → ys[i]? = some b → a ≠ b → xs ≠ ys := fun h1 h2 h3 h => by subst h; rw [h1] at h2; injection h2 with h2; exact h3 h2
    refine Rt.cDT (by omega) (Rt.ixO hx.sl (by omega) (by omega) fun x a k1 K kl kc V vl vc ex hv c0 c1 c2 => ?_)
    rw [Int.toNat_natCast] at ex
    (repeat (first | (with_reducible (first | refine Rt.fin ?_ | refine Rt.tL ?_ | refine Rt.tI ?_ | refine Rt.tB ?_ | refine Rt.tS ?_ | refine Rt.tP ?_ | refine Rt.tD ?_ | refine Rt.tM ?_ | refine Rt.tC ?_ | refine Rt.tN ?_ | refine Rt.tA ?_ | refine Rt.tG ?_ | refine Rt.tF ?_ | refine Rt.os ?_ | refine Rt.clS ?_ | refine Rt.jmN ?_ | refine Rt.jbN ?_ | refine Rt.jbE ?_)) | ((with_reducible (first | apply Rt.ld0 | apply Rt.ld1 | apply Rt.ld2 | apply Rt.ld3 | apply Rt.ld4 | apply Rt.ld5)); first | assumption | exact Lc.kp (by assumption) (by assumption)) | ((with_reducible apply Rt.ol); first | assumption | exact cell_kp (by assumption) (by assumption)) | ((with_reducible apply Rt.ckR); focus ((repeat (first | (with_reducible (first | refine Rt.fin ?_ | refine Rt.tL ?_ | refine Rt.tI ?_ | refine Rt.tB ?_ | refine Rt.tS ?_ | refine Rt.tP ?_ | refine Rt.tD ?_ | refine Rt.tM ?_ | refine Rt.tC ?_ | refine Rt.tN ?_ | refine Rt.tA ?_ | refine Rt.tG ?_ | refine Rt.tF ?_ | refine Rt.os ?_ | refine Rt.clS ?_ | refine Rt.jmN ?_ | refine Rt.jbN ?_ | refine Rt.jbE ?_)) | ((with_reducible (first | apply Rt.ld0 | apply Rt.ld1 | apply Rt.ld2 | apply Rt.ld3 | apply Rt.ld4 | apply Rt.ld5)); first | assumption | exact Lc.kp (by assumption) (by assumption)) | ((with_reducible apply Rt.ol); first | assumption | exact cell_kp (by assumption) (by assumption)))); exact Rt.some' rfl))))
    refine Rt.ixO hy.sl (by omega) (by omega) fun y a' k2 K' kl' kc' V' vl' vc' ey hv' c0' c1' c2' => ?_
    rw [Int.toNat_natCast] at ey
    have h1 := hv.kind
    have h2 := hv'.kind
    (repeat (first | (with_reducible (first | refine Rt.fin ?_ | refine Rt.tL ?_ | refine Rt.tI ?_ | refine Rt.tB ?_ | refine Rt.tS ?_ | refine Rt.tP ?_ | refine Rt.tD ?_ | refine Rt.tM ?_ | refine Rt.tC ?_ | refine Rt.tN ?_ | refine Rt.tA ?_ | refine Rt.tG ?_ | refine Rt.tF ?_ | refine Rt.os ?_ | refine Rt.clS ?_ | refine Rt.jmN ?_ | refine Rt.jbN ?_ | refine Rt.jbE ?_)) | ((with_reducible (first | apply Rt.ld0 | apply Rt.ld1 | apply Rt.ld2 | apply Rt.ld3 | apply Rt.ld4 | apply Rt.ld5)); first | assumption | exact Lc.kp (by assumption) (by assumption)) | ((with_reducible apply Rt.ol); first | assumption | exact cell_kp (by assumption) (by assumption)) | ((with_reducible apply Rt.ckR); focus ((repeat (first | (with_reducible (first | refine Rt.fin ?_ | refine Rt.tL ?_ | refine Rt.tI ?_ | refine Rt.tB ?_ | refine Rt.tS ?_ | refine Rt.tP ?_ | refine Rt.tD ?_ | refine Rt.tM ?_ | refine Rt.tC ?_ | refine Rt.tN ?_ | refine Rt.tA ?_ | refine Rt.tG ?_ | refine Rt.tF ?_ | refine Rt.os ?_ | refine Rt.clS ?_ | refine Rt.jmN ?_ | refine Rt.jbN ?_ | refine Rt.jbE ?_)) | ((with_reducible (first | apply Rt.ld0 | apply Rt.ld1 | apply Rt.ld2 | apply Rt.ld3 | apply Rt.ld4 | apply Rt.ld5)); first | assumption | exact Lc.kp (by assumption) (by assumption)) | ((with_reducible apply Rt.ol); first | assumption | exact cell_kp (by assumption) (by assumption)))); exact Rt.some' rfl))))
    refine Rt.cN (fun hkk => ?_) fun hkk => Rt.some' ⟨hkd, .inr ⟨rfl, rfl, hne ex ey fun h => by subst h; omega⟩⟩
    clear c0 c1 c2 c0' c1' c2'
    refine Rt.ixO hx.sl (by omega) (by omega) fun x2 b k3 K2 kl2 kc2 V2 vl2 vc2 ex2 hv2 c0 c1 c2 => ?_
    obtain rfl := same ex ex2
    (repeat (first | (with_reducible (first | refine Rt.fin ?_ | refine Rt.tL ?_ | refine Rt.tI ?_ | refine Rt.tB ?_ | refine Rt.tS ?_ | refine Rt.tP ?_ | refine Rt.tD ?_ | refine Rt.tM ?_ | refine Rt.tC ?_ | refine Rt.tN ?_ | refine Rt.tA ?_ | refine Rt.tG ?_ | refine Rt.tF ?_ | refine Rt.os ?_ | refine Rt.clS ?_ | refine Rt.jmN ?_ | refine Rt.jbN ?_ | refine Rt.jbE ?_)) | ((with_reducible (first | apply Rt.ld0 | apply Rt.ld1 | apply Rt.ld2 | apply Rt.ld3 | apply Rt.ld4 | apply Rt.ld5)); first | assumption | exact Lc.kp (by assumption) (by assumption)) | ((with_reducible apply Rt.ol); first | assumption | exact cell_kp (by assumption) (by assumption)) | ((with_reducible apply Rt.ckR); focus ((repeat (first | (with_reducible (first | refine Rt.fin ?_ | refine Rt.tL ?_ | refine Rt.tI ?_ | refine Rt.tB ?_ | refine Rt.tS ?_ | refine Rt.tP ?_ | refine Rt.tD ?_ | refine Rt.tM ?_ | refine Rt.tC ?_ | refine Rt.tN ?_ | refine Rt.tA ?_ | refine Rt.tG ?_ | refine Rt.tF ?_ | refine Rt.os ?_ | refine Rt.clS ?_ | refine Rt.jmN ?_ | refine Rt.jbN ?_ | refine Rt.jbE ?_)) | ((with_reducible (first | apply Rt.ld0 | apply Rt.ld1 | apply Rt.ld2 | apply Rt.ld3 | apply Rt.ld4 | apply Rt.ld5)); first | assumption | exact Lc.kp (by assumption) (by assumption)) | ((with_reducible apply Rt.ol); first | assumption | exact cell_kp (by assumption) (by assumption)))); exact Rt.some' rfl))))
    refine Rt.str (hv2.key.kp hkd) ?_
    refine Rt.ixO hy.sl (by omega) (by omega) fun y2 b' k4 K2' kl2' kc2' V2' vl2' vc2' ey2 hv2' c0' c1' c2' => ?_
    obtain rfl := same' ey ey2
    (repeat (first | (with_reducible (first | refine Rt.fin ?_ | refine Rt.tL ?_ | refine Rt.tI ?_ | refine Rt.tB ?_ | refine Rt.tS ?_ | refine Rt.tP ?_ | refine Rt.tD ?_ | refine Rt.tM ?_ | refine Rt.tC ?_ | refine Rt.tN ?_ | refine Rt.tA ?_ | refine Rt.tG ?_ | refine Rt.tF ?_ | refine Rt.os ?_ | refine Rt.clS ?_ | refine Rt.jmN ?_ | refine Rt.jbN ?_ | refine Rt.jbE ?_)) | ((with_reducible (first | apply Rt.ld0 | apply Rt.ld1 | apply Rt.ld2 | apply Rt.ld3 | apply Rt.ld4 | apply Rt.ld5)); first | assumption | exact Lc.kp (by assumption) (by assumption)) | ((with_reducible apply Rt.ol); first | assumption | exact cell_kp (by assumption) (by assumption)) | ((with_reducible apply Rt.ckR); focus ((repeat (first | (with_reducible (first | refine Rt.fin ?_ | refine Rt.tL ?_ | refine Rt.tI ?_ | refine Rt.tB ?_ | refine Rt.tS ?_ | refine Rt.tP ?_ | refine Rt.tD ?_ | refine Rt.tM ?_ | refine Rt.tC ?_ | refine Rt.tN ?_ | refine Rt.tA ?_ | refine Rt.tG ?_ | refine Rt.tF ?_ | refine Rt.os ?_ | refine Rt.clS ?_ | refine Rt.jmN ?_ | refine Rt.jbN ?_ | refine Rt.jbE ?_)) | ((with_reducible (first | apply Rt.ld0 | apply Rt.ld1 | apply Rt.ld2 | apply Rt.ld3 | apply Rt.ld4 | apply Rt.ld5)); first | assumption | exact Lc.kp (by assumption) (by assumption)) | ((with_reducible apply Rt.ol); first | assumption | exact cell_kp (by assumption) (by assumption)))); exact Rt.some' rfl))))
    refine Rt.str (hv2'.key.kp hkd) (Rt.cSn hv2.key.rng hv2'.key.rng (fun hkey => ?_) fun h => Rt.some' ⟨hkd, .inr ⟨rfl, rfl, hne ex ey fun h' => h (by rw [h'])⟩⟩)
    clear c0 c1 c2 c0' c1' c2'
    refine Rt.ixO hx.sl (by omega) (by omega) fun x3 b3 k5 K3 kl3 kc3 V3 vl3 vc3 ex3 hv3 c0 c1 c2 => ?_
    obtain rfl := same ex ex3
    (repeat (first | (with_reducible (first | refine Rt.fin ?_ | refine Rt.tL ?_ | refine Rt.tI ?_ | refine Rt.tB ?_ | refine Rt.tS ?_ | refine Rt.tP ?_ | refine Rt.tD ?_ | refine Rt.tM ?_ | refine Rt.tC ?_ | refine Rt.tN ?_ | refine Rt.tA ?_ | refine Rt.tG ?_ | refine Rt.tF ?_ | refine Rt.os ?_ | refine Rt.clS ?_ | refine Rt.jmN ?_ | refine Rt.jbN ?_ | refine Rt.jbE ?_)) | ((with_reducible (first | apply Rt.ld0 | apply Rt.ld1 | apply Rt.ld2 | apply Rt.ld3 | apply Rt.ld4 | apply Rt.ld5)); first | assumption | exact Lc.kp (by assumption) (by assumption)) | ((with_reducible apply Rt.ol); first | assumption | exact cell_kp (by assumption) (by assumption)) | ((with_reducible apply Rt.ckR); focus ((repeat (first | (with_reducible (first | refine Rt.fin ?_ | refine Rt.tL ?_ | refine Rt.tI ?_ | refine Rt.tB ?_ | refine Rt.tS ?_ | refine Rt.tP ?_ | refine Rt.tD ?_ | refine Rt.tM ?_ | refine Rt.tC ?_ | refine Rt.tN ?_ | refine Rt.tA ?_ | refine Rt.tG ?_ | refine Rt.tF ?_ | refine Rt.os ?_ | refine Rt.clS ?_ | refine Rt.jmN ?_ | refine Rt.jbN ?_ | refine Rt.jbE ?_)) | ((with_reducible (first | apply Rt.ld0 | apply Rt.ld1 | apply Rt.ld2 | apply Rt.ld3 | apply Rt.ld4 | apply Rt.ld5)); first | assumption | exact Lc.kp (by assumption) (by assumption)) | ((with_reducible apply Rt.ol); first | assumption | exact cell_kp (by assumption) (by assumption)))); exact Rt.some' rfl))))
    refine Rt.str (hv3.val.kp hkd) ?_
    refine Rt.ixO hy.sl (by omega) (by omega) fun y3 b3' k6 K3' kl3' kc3' V3' vl3' vc3' ey3 hv3' c0' c1' c2' => ?_
    obtain rfl := same' ey ey3
    (repeat (first | (with_reducible (first | refine Rt.fin ?_ | refine Rt.tL ?_ | refine Rt.tI ?_ | refine Rt.tB ?_ | refine Rt.tS ?_ | refine Rt.tP ?_ | refine Rt.tD ?_ | refine Rt.tM ?_ | refine Rt.tC ?_ | refine Rt.tN ?_ | refine Rt.tA ?_ | refine Rt.tG ?_ | refine Rt.tF ?_ | refine Rt.os ?_ | refine Rt.clS ?_ | refine Rt.jmN ?_ | refine Rt.jbN ?_ | refine Rt.jbE ?_)) | ((with_reducible (first | apply Rt.ld0 | apply Rt.ld1 | apply Rt.ld2 | apply Rt.ld3 | apply Rt.ld4 | apply Rt.ld5)); first | assumption | exact Lc.kp (by assumption) (by assumption)) | ((with_reducible apply Rt.ol); first | assumption | exact cell_kp (by assumption) (by assumption)) | ((with_reducible apply Rt.ckR); focus ((repeat (first | (with_reducible (first | refine Rt.fin ?_ | refine Rt.tL ?_ | refine Rt.tI ?_ | refine Rt.tB ?_ | refine Rt.tS ?_ | refine Rt.tP ?_ | refine Rt.tD ?_ | refine Rt.tM ?_ | refine Rt.tC ?_ | refine Rt.tN ?_ | refine Rt.tA ?_ | refine Rt.tG ?_ | refine Rt.tF ?_ | refine Rt.os ?_ | refine Rt.clS ?_ | refine Rt.jmN ?_ | refine Rt.jbN ?_ | refine Rt.jbE ?_)) | ((with_reducible (first | apply Rt.ld0 | apply Rt.ld1 | apply Rt.ld2 | apply Rt.ld3 | apply Rt.ld4 | apply Rt.ld5)); first | assumption | exact Lc.kp (by assumption) (by assumption)) | ((with_reducible apply Rt.ol); first | assumption | exact cell_kp (by assumption) (by assumption)))); exact Rt.some' rfl))))
    refine Rt.str (hv3'.val.kp hkd) (Rt.cSn hv3.val.rng hv3'.val.rng (fun hval => ?_) fun h => Rt.some' ⟨hkd, .inr ⟨rfl, rfl, hne ex ey fun h' => h (by rw [h'])⟩⟩)
    rw [i64_in _ (by omega), show ((i : Int) + 1) = ((i + 1 : Nat) : Int) by omega]
    refine ih (i + 1) j _ (by omega) (by omega) hkd ?_
    rw [List.take_add_one, List.take_add_one, hr, ex, ey]
    congr 1
    have : x3 = y3 := by
      obtain ⟨xk, xkey, xval⟩ := x3
      obtain ⟨yk, ykey, yval⟩ := y3
      simp only at hkey hval h1 h2
      subst hkey hval
      congr 1
      omega
    rw [this]
theorem SameOps_spec (hx : Ev opEl w A l c xs) (hy : Ev opEl w B m d ys) (hl : l < 2 ^ 62) (hn : l < n) : Rt (butteryref1_SameOps n [.slice A l c, .slice B m d] w) (RB (xs = ys) w) := by
  have hxl := hx.len
  have hyl := hy.len
  rw [butteryref1_SameOps_eq]
  refine Rt.fin (Rt.cN (fun h => ?_) fun h => Rt.endB (by simp; intro h'; subst h'; omega) (Kp.rfl' w))
  obtain rfl : l = m := by omega
  refine Rt.jb (Rt.mono (SameOps_l0 (n := n) hx hy hl l 0 n w (by omega) (by omega) (Kp.rfl' w) (by simp)) ?_)
  rintro ⟨ex, vs, w1⟩ ⟨k1, ⟨h3, h4, h5⟩ | ⟨h3, h4, h5⟩⟩
  · dsimp only at h3 h4 k1
    subst h3 h4
    refine .inl ⟨.inr rfl, ?_⟩
    (repeat (first | (with_reducible (first | refine Rt.fin ?_ | refine Rt.tL ?_ | refine Rt.tI ?_ | refine Rt.tB ?_ | refine Rt.tS ?_ | refine Rt.tP ?_ | refine Rt.tD ?_ | refine Rt.tM ?_ | refine Rt.tC ?_ | refine Rt.tN ?_ | refine Rt.tA ?_ | refine Rt.tG ?_ | refine Rt.tF ?_ | refine Rt.os ?_ | refine Rt.clS ?_ | refine Rt.jmN ?_ | refine Rt.jbN ?_ | refine Rt.jbE ?_)) | ((with_reducible (first | apply Rt.ld0 | apply Rt.ld1 | apply Rt.ld2 | apply Rt.ld3 | apply Rt.ld4 | apply Rt.ld5)); first | assumption | exact Lc.kp (by assumption) (by assumption)) | ((with_reducible apply Rt.ol); first | assumption | exact cell_kp (by assumption) (by assumption)) | ((with_reducible apply Rt.ckR); focus ((repeat (first | (with_reducible (first | refine Rt.fin ?_ | refine Rt.tL ?_ | refine Rt.tI ?_ | refine Rt.tB ?_ | refine Rt.tS ?_ | refine Rt.tP ?_ | refine Rt.tD ?_ | refine Rt.tM ?_ | refine Rt.tC ?_ | refine Rt.tN ?_ | refine Rt.tA ?_ | refine Rt.tG ?_ | refine Rt.tF ?_ | refine Rt.os ?_ | refine Rt.clS ?_ | refine Rt.jmN ?_ | refine Rt.jbN ?_ | refine Rt.jbE ?_)) | ((with_reducible (first | apply Rt.ld0 | apply Rt.ld1 | apply Rt.ld2 | apply Rt.ld3 | apply Rt.ld4 | apply Rt.ld5)); first | assumption | exact Lc.kp (by assumption) (by assumption)) | ((with_reducible apply Rt.ol); first | assumption | exact cell_kp (by assumption) (by assumption)))); exact Rt.some' rfl))))
    exact Rt.endB (by simp [h5]) k1
  · dsimp only at h3 h4 k1
    subst h3 h4
    exact .inr ⟨rfl, rfl, false, w1, rfl, ⟨fun h => by simp at h, fun h => absurd h h5⟩, k1⟩
theorem SameBatch_spec (hx : Ev opEl w A l c xs) (hy : Ev opEl w B m d ys) (hl : l < 2 ^ 62) (hn : l < n) : Rt (butteryref1_SameBatch n [bv s A l c, bv s' B m d] w) (RB (s = s' ∧ xs = ys) w) := by
  rw [butteryref1_SameBatch_eq]
  refine Rt.fin (Rt.al fun w1 l1 k1 s1 => Rt.al fun w2 l2 k2 s2 => ?_)
  have l1 := l1.kp k2
  have k12 := k1.tr k2
  (repeat (first | (with_reducible (first | refine Rt.fin ?_ | refine Rt.tL ?_ | refine Rt.tI ?_ | refine Rt.tB ?_ | refine Rt.tS ?_ | refine Rt.tP ?_ | refine Rt.tD ?_ | refine Rt.tM ?_ | refine Rt.tC ?_ | refine Rt.tN ?_ | refine Rt.tA ?_ | refine Rt.tG ?_ | refine Rt.tF ?_ | refine Rt.os ?_ | refine Rt.clS ?_ | refine Rt.jmN ?_ | refine Rt.jbN ?_ | refine Rt.jbE ?_)) | ((with_reducible (first | apply Rt.ld0 | apply Rt.ld1 | apply Rt.ld2 | apply Rt.ld3 | apply Rt.ld4 | apply Rt.ld5)); first | assumption | exact Lc.kp (by assumption) (by assumption)) | ((with_reducible apply Rt.ol); first | assumption | exact cell_kp (by assumption) (by assumption)) | ((with_reducible apply Rt.ckR); focus ((repeat (first | (with_reducible (first | refine Rt.fin ?_ | refine Rt.tL ?_ | refine Rt.tI ?_ | refine Rt.tB ?_ | refine Rt.tS ?_ | refine Rt.tP ?_ | refine Rt.tD ?_ | refine Rt.tM ?_ | refine Rt.tC ?_ | refine Rt.tN ?_ | refine Rt.tA ?_ | refine Rt.tG ?_ | refine Rt.tF ?_ | refine Rt.os ?_ | refine Rt.clS ?_ | refine Rt.jmN ?_ | refine Rt.jbN ?_ | refine Rt.jbE ?_)) | ((with_reducible (first | apply Rt.ld0 | apply Rt.ld1 | apply Rt.ld2 | apply Rt.ld3 | apply Rt.ld4 | apply Rt.ld5)); first | assumption | exact Lc.kp (by assumption) (by assumption)) | ((with_reducible apply Rt.ol); first | assumption | exact cell_kp (by assumption) (by assumption)))); exact Rt.some' rfl))))
  refine Rt.cQ (fun h => ?_) fun h => Rt.endB (by simp [h]) k12
  (repeat (first | (with_reducible (first | refine Rt.fin ?_ | refine Rt.tL ?_ | refine Rt.tI ?_ | refine Rt.tB ?_ | refine Rt.tS ?_ | refine Rt.tP ?_ | refine Rt.tD ?_ | refine Rt.tM ?_ | refine Rt.tC ?_ | refine Rt.tN ?_ | refine Rt.tA ?_ | refine Rt.tG ?_ | refine Rt.tF ?_ | refine Rt.os ?_ | refine Rt.clS ?_ | refine Rt.jmN ?_ | refine Rt.jbN ?_ | refine Rt.jbE ?_)) | ((with_reducible (first | apply Rt.ld0 | apply Rt.ld1 | apply Rt.ld2 | apply Rt.ld3 | apply Rt.ld4 | apply Rt.ld5)); first | assumption | exact Lc.kp (by assumption) (by assumption)) | ((with_reducible apply Rt.ol); first | assumption | exact cell_kp (by assumption) (by assumption)) | ((with_reducible apply Rt.ckR); focus ((repeat (first | (with_reducible (first | refine Rt.fin ?_ | refine Rt.tL ?_ | refine Rt.tI ?_ | refine Rt.tB ?_ | refine Rt.tS ?_ | refine Rt.tP ?_ | refine Rt.tD ?_ | refine Rt.tM ?_ | refine Rt.tC ?_ | refine Rt.tN ?_ | refine Rt.tA ?_ | refine Rt.tG ?_ | refine Rt.tF ?_ | refine Rt.os ?_ | refine Rt.clS ?_ | refine Rt.jmN ?_ | refine Rt.jbN ?_ | refine Rt.jbE ?_)) | ((with_reducible (first | apply Rt.ld0 | apply Rt.ld1 | apply Rt.ld2 | apply Rt.ld3 | apply Rt.ld4 | apply Rt.ld5)); first | assumption | exact Lc.kp (by assumption) (by assumption)) | ((with_reducible apply Rt.ol); first | assumption | exact cell_kp (by assumption) (by assumption)))); exact Rt.some' rfl))))
  refine Rt.cBo (SameOps_spec (hx.kp k12) (hy.kp k12) hl hn) fun b w3 hb k3 => ?_
  exact Rt.endB (by rw [hb]; simp [h]) (k12.tr k3)
theorem Rt.cBat {z : Option (List Value × World)} {y : Int × Int × List OpD} (h : Rt z (RBat w0 y)) {f : Int → Option Addr → Nat → Nat → Int → World → Option α} (hf : ∀ B d w1, OwnX (fun j => j < w0.heap.size) opEl 30 w1 w0.heap.size (.slice B y.2.2.length d) y.2.2 → Kp w0 w1 → Rt (f y.2.1 B y.2.2.length d y.1 w1) Q) :
    Rt (cl z fun vs w => tC vs fun v cs => tA v fun cs1 => tC cs1 fun v1 cs2 => tI .u64 v1 fun s => tC cs2 fun v2 cs3 => tL v2 fun A l c => tN cs3 (tC cs fun v3 cs4 => tI .i64 v3 fun e => tN cs4 (f s A l c e w))) Q := by
  obtain ⟨_, rfl, B, d, w1, rfl, o, k1⟩ := h
  (repeat (first | (with_reducible (first | refine Rt.fin ?_ | refine Rt.tL ?_ | refine Rt.tI ?_ | refine Rt.tB ?_ | refine Rt.tS ?_ | refine Rt.tP ?_ | refine Rt.tD ?_ | refine Rt.tM ?_ | refine Rt.tC ?_ | refine Rt.tN ?_ | refine Rt.tA ?_ | refine Rt.tG ?_ | refine Rt.tF ?_ | refine Rt.os ?_ | refine Rt.clS ?_ | refine Rt.jmN ?_ | refine Rt.jbN ?_ | refine Rt.jbE ?_)) | ((with_reducible (first | apply Rt.ld0 | apply Rt.ld1 | apply Rt.ld2 | apply Rt.ld3 | apply Rt.ld4 | apply Rt.ld5)); first | assumption | exact Lc.kp (by assumption) (by assumption)) | ((with_reducible apply Rt.ol); first | assumption | exact cell_kp (by assumption) (by assumption)) | ((with_reducible apply Rt.ckR); focus ((repeat (first | (with_reducible (first | refine Rt.fin ?_ | refine Rt.tL ?_ | refine Rt.tI ?_ | refine Rt.tB ?_ | refine Rt.tS ?_ | refine Rt.tP ?_ | refine Rt.tD ?_ | refine Rt.tM ?_ | refine Rt.tC ?_ | refine Rt.tN ?_ | refine Rt.tA ?_ | refine Rt.tG ?_ | refine Rt.tF ?_ | refine Rt.os ?_ | refine Rt.clS ?_ | refine Rt.jmN ?_ | refine Rt.jbN ?_ | refine Rt.jbE ?_)) | ((with_reducible (first | apply Rt.ld0 | apply Rt.ld1 | apply Rt.ld2 | apply Rt.ld3 | apply Rt.ld4 | apply Rt.ld5)); first | assumption | exact Lc.kp (by assumption) (by assumption)) | ((with_reducible apply Rt.ol); first | assumption | exact cell_kp (by assumption) (by assumption)))); exact Rt.some' rfl))))
  exact hf B d w1 o k1
theorem Rt.cROe {z : Option (List Value × World)} {y : List Int × Int} (h : Rt z (ROe .u8 5 w0 y)) {f : Option Addr → Nat → Nat → Int → World → Option α} (hf : ∀ B d w1, Own .u8 5 w1 w0.heap.size (.slice B y.1.length d) y.1 → Kp w0 w1 → Rt (f B y.1.length d y.2 w1) Q) :
    Rt (cl z fun vs w => tC vs fun v cs => tL v fun A l c => tC cs fun v3 cs4 => tI .i64 v3 fun e => tN cs4 (f A l c e w)) Q := by
  obtain ⟨_, rfl, B, d, w1, rfl, o, k1⟩ := h
  (repeat (first | (with_reducible (first | refine Rt.fin ?_ | refine Rt.tL ?_ | refine Rt.tI ?_ | refine Rt.tB ?_ | refine Rt.tS ?_ | refine Rt.tP ?_ | refine Rt.tD ?_ | refine Rt.tM ?_ | refine Rt.tC ?_ | refine Rt.tN ?_ | refine Rt.tA ?_ | refine Rt.tG ?_ | refine Rt.tF ?_ | refine Rt.os ?_ | refine Rt.clS ?_ | refine Rt.jmN ?_ | refine Rt.jbN ?_ | refine Rt.jbE ?_)) | ((with_reducible (first | apply Rt.ld0 | apply Rt.ld1 | apply Rt.ld2 | apply Rt.ld3 | apply Rt.ld4 | apply Rt.ld5)); first | assumption | exact Lc.kp (by assumption) (by assumption)) | ((with_reducible apply Rt.ol); first | assumption | exact cell_kp (by assumption) (by assumption)) | ((with_reducible apply Rt.ckR); focus ((repeat (first | (with_reducible (first | refine Rt.fin ?_ | refine Rt.tL ?_ | refine Rt.tI ?_ | refine Rt.tB ?_ | refine Rt.tS ?_ | refine Rt.tP ?_ | refine Rt.tD ?_ | refine Rt.tM ?_ | refine Rt.tC ?_ | refine Rt.tN ?_ | refine Rt.tA ?_ | refine Rt.tG ?_ | refine Rt.tF ?_ | refine Rt.os ?_ | refine Rt.clS ?_ | refine Rt.jmN ?_ | refine Rt.jbN ?_ | refine Rt.jbE ?_)) | ((with_reducible (first | apply Rt.ld0 | apply Rt.ld1 | apply Rt.ld2 | apply Rt.ld3 | apply Rt.ld4 | apply Rt.ld5)); first | assumption | exact Lc.kp (by assumption) (by assumption)) | ((with_reducible apply Rt.ol); first | assumption | exact cell_kp (by assumption) (by assumption)))); exact Rt.some' rfl))))
  exact hf B d w1 o k1
theorem allOps (hx : Ev opEl w A l c xs) : ∀ o ∈ xs, Bytes o.key ∧ Bytes o.val ∧ (Lit.int .i64 o.kind).wf = true := by
  intro o ho
  obtain ⟨i, hi, rfl⟩ := List.getElem_of_mem ho
  have hxl := hx.len
  obtain ⟨x, a, us, e1, _, _, e4, _⟩ := hx.sl.at_ (i := (i : Int)) (by omega) (by omega)
  rw [Int.toNat_natCast, List.getElem?_eq_getElem hi] at e1
  injection e1 with e1
  obtain ⟨k, B, m, d, C, p, q, _, hv⟩ := e4
  rw [e1]
  exact ⟨hv.key.rng, hv.val.rng, hv.rk⟩
theorem bytesB_wf (hx : Ev opEl w A l c xs) : Bytes (bytesB s xs).1 := by
  unfold bytesB
  split
  · exact bnil
  · rename_i hc
    have hc := checkC_ok.1 (Classical.not_not.1 hc)
    split
    · intro z hz
      have hz : z ∈ lowB 8 s ++ lowB 4 xs.length ++ bodyB xs := hz
      rcases List.mem_append.1 hz with hz | hz
      · rcases List.mem_append.1 hz with hz | hz
        · exact lowB_wf _ _ z hz
        · exact lowB_wf _ _ z hz
      · obtain ⟨v, hv, hzv⟩ := List.mem_flatten.1 hz
        obtain ⟨o, ho, rfl⟩ := List.mem_map.1 hv
        obtain ⟨a1, a2, a3⟩ := allOps hx o ho
        have hr := hc.2.2 o ho
        unfold rightO at hr
        have e1 := enc_wf (x := o.key.length) (by omega)
        have e2 := enc_wf (x := o.val.length) (by omega)
        unfold encO at hzv
        rcases List.mem_append.1 hzv with hzv | hzv
        · rcases List.mem_append.1 hzv with hzv | hzv
          · rcases List.mem_append.1 hzv with hzv | hzv
            · rw [List.mem_singleton] at hzv
              subst hzv
              have h0 : IntKind.u8.min = 0 := rfl
              have h1 : IntKind.u8.max = 255 := rfl
              simp only [Lit.wf, h0, h1, Bool.and_eq_true, decide_eq_true_eq]; omega
            · exact e1 z hzv
          · exact a1 z hzv
        · split at hzv
          · rcases List.mem_append.1 hzv with hzv | hzv
            · exact e2 z hzv
            · exact a2 z hzv
          · cases hzv
    · exact bnil
theorem bytesB_len (hx : ∀ o ∈ xs, True) : (bytesB s xs).1.length ≤ 600000 := by
  unfold bytesB
  split
  · simp
  · rename_i hc
    obtain ⟨c1, c2, c3⟩ := checkC_ok.1 (Classical.not_not.1 hc)
    split
    · have := bodyB_len c3
      show (encB s xs).length ≤ 600000
      simp only [encB, List.length_append, lowB_len]; omega
    · simp
theorem bytesB_ok (h : (bytesB s xs).2 = 0) : checkC xs = 0 ∧ numC s xs.length ∧ (bytesB s xs).1 = encB s xs := by
  unfold bytesB at h ⊢
  by_cases hc : checkC xs = 0
  · rw [if_neg (by simpa using hc)] at h ⊢
    by_cases hn : numC s xs.length
    · rw [if_pos hn]; exact ⟨hc, hn, rfl⟩
    · rw [if_neg hn] at h; simp at h
  · rw [if_pos hc] at h; exact absurd h hc
end
end Go.Proofs.YtdcdgmiojlldaaaDoor.Ba
/- Rows of one cell each, of the call's own: values that the world plays no part in. -/
namespace Go.Proofs.YtdcdgmiojlldaaaDoor.Big
open Go Go.RowKit
set_option linter.unusedVariables false
set_option linter.unusedSimpArgs false
set_option linter.unusedSectionVars false
section
variable {α : Type} {Q : α → Prop} {P : Program} {t e : TypeId} {w w' w0 : World} {base : Nat} {v : Value} {vs : List Value} {S : Nat → Prop} {i : TypeInfo} {z : Value}
end
end Go.Proofs.YtdcdgmiojlldaaaDoor.Big
/- Rows of structs that stay readable while other blocks of the call's own are written. -/
namespace Go.Proofs.YtdcdgmiojlldaaaDoor.Big
open Go Go.RowKit
set_option linter.unusedVariables false
set_option linter.unusedSimpArgs false
section
variable {α γ : Type} {E : El γ} {Q : α → Prop} {P : Program} {t e : TypeId} {w w' w0 : World} {base : Nat} {v : Value} {xs ys : List γ} {S S' : Nat → Prop} {i : TypeInfo} {z : Value} {A : Option Addr} {l c n d : Nat}
theorem OwnX.stb (h : OwnX S E e w base (.slice A l c) xs) (hn : ∀ k, S k → k < base) : Stb S (fun w => Ev E w A l c xs) w := fun w' hg =>
  (h.gx hg (fun _ _ h => h) fun k hk hv => by have := (h.lt k hv).1; have := hn k hk; omega).ownE.ev
theorem Rt.jmX {x : Option Res} {f : List Value → World → Option Res} {Q : Res → Prop} (h : Rt x fun r => r.ex = .norm ∧ Rt (f r.vals r.w) Q ∨ r.ex ≠ .norm ∧ Q r) : Rt (Big.jm x f) Q := by
  obtain ⟨⟨ex, vs, w⟩, rfl, ⟨h1, h2⟩ | ⟨h1, h2⟩⟩ := h
  · cases h1; exact h2
  · cases ex
    · exact absurd rfl h1
    · exact ⟨_, rfl, h2⟩
    · exact ⟨_, rfl, h2⟩
theorem Rt.of_eq {x y : Option α} (e : x = y) (h : Rt x Q) : Rt y Q := e ▸ h
theorem Lc.dr' {b : Nat} {l : List Value} (h : Lc w b l) : Lc w.drew b l := h.kp (Kp.rfl' w).dr
theorem Rt.ldn {b j : Nat} {l : List Value} {x : Value} {f : Value → Option α} (hl : Lc w b l) (hx : l[j]? = some x) (h : Rt (f x) Q) : Rt (opt (w.cell? (Addr.add ⟨b, 0, none⟩ j)) f) Q :=
  Rt.ol (by rw [Addr.add_lit, Nat.zero_add, hl.ld]; exact hx) h
theorem Rt.stn {b j : Nat} {l : List Value} {x : Value} {f : World → Option α} (hl : Lc w b l) (hj : j < l.length) (h : ∀ w1, Lc w1 b (l.set j x) → Gx (fun k => k = b) w w1 → Rt (f w1) Q) : Rt (stC w (Addr.add ⟨b, 0, none⟩ j) x f) Q := by
  obtain ⟨h1, h2, h3⟩ := hl.st j hj x
  rw [Addr.add_lit, Nat.zero_add, h3]; exact h _ h1 h2
end
end Go.Proofs.YtdcdgmiojlldaaaDoor.Big
/- CR CS LG -/
/- What the functions of package crc compute. -/
namespace Go.Proofs.YtdcdgmiojlldaaaDoor.Crc
open Go Big Go.RowKit Go.IntWalk
set_option linter.unusedVariables false
set_option linter.unusedSimpArgs false
theorem cFin {x : Bool} {α : Type} {a b : α} (h : x = true) : cond x a b = a := by rw [h]; rfl
theorem cFalse {x : Bool} {α : Type} {a b : α} (h : x = false) : cond x a b = b := by rw [h]; rfl
def one (x : Int) : Int := cond ((bits .and .u32 x 1) == 1) (bits .xor .u32 (Int.fdiv x (2 ^ 1)) 2197175160) (Int.fdiv x (2 ^ 1))
def many : Nat → Int → Int
  | 0, x => x
  | n + 1, x => many n (one x)
def tab : List Int := (List.range 256).map fun (i : Nat) => many 8 (i : Int)
theorem tab_len : tab.length = 256 := by simp [tab]
theorem tab_get {i : Nat} (h : i < 256) : tab.getD i 0 = many 8 i := by simp [tab, List.getD_eq_getElem?_getD, h]
section
variable {n : Nat} {w : World}
theorem Table_l1 (A : Option Addr) (l c : Nat) (y z u : Int) : ∀ (j k m : Nat) (x : Int), j + k = 8 → k < m → crc_Table.l1 n m A l c y x z u (j : Int) w = some ⟨.exit 2, [.slice A l c, .int .i64 y, .int .u32 (many k x), .int .i64 z, .int .i64 u], w⟩ := by
  intro j k
  induction k generalizing j with
  | zero =>
    intro m x hj hm
    obtain ⟨m, rfl⟩ : ∃ m', m = m' + 1 := ⟨m - 1, by omega⟩
    rw [crc_Table.l1_succ, cFalse (by simp; omega)]
    rfl
  | succ k ih =>
    intro m x hj hm
    obtain ⟨m, rfl⟩ : ∃ m', m = m' + 1 := ⟨m - 1, by omega⟩
    rw [crc_Table.l1_succ, cFin (by simp; omega)]
    have hi : IntKind.i64.wrap ((j : Int) + 1) = ((j + 1 : Nat) : Int) := by rw [i64_in _ (by omega)]; omega
    have e := fun x => ih (j + 1) m x (by omega) (by omega)
    unfold many one
    cases hb : ((bits .and .u32 x 1) == 1)
    · simp only [cond_false, jb_norm, tC_mk, tL_mk, tI_mk, tN_mk, hi]; exact e _
    · simp only [cond_true, jb_norm, tC_mk, tL_mk, tI_mk, tN_mk, hi]; exact e _
theorem slT34 : ∃ i, SlT Tryd.prog 100 122 .u32 i := slT (by kernel_rfl)
theorem Table_l0 (hn : 300 ≤ n) (base : Nat) (A : Option Addr) (c : Nat) : ∀ (j k m : Nat) (xs : List Int) (w : World), j + k = 256 → k < m → Own .u32 122 w base (.slice A 256 c) xs → (∀ i, i < j → xs.getD i 0 = many 8 i) → xs.length = 256 →
    ∃ w', crc_Table.l0 n m A 256 c 256 (j : Int) w = some ⟨.exit 0, [.slice A 256 c], w'⟩ ∧ Own .u32 122 w' base (.slice A 256 c) tab ∧ (∀ w0 : World, Kp w0 w → w0.heap.size ≤ base → Kp w0 w') := by
  intro j k
  induction k generalizing j with
  | zero =>
    intro m xs w hj hm ho hx hl
    obtain ⟨m, rfl⟩ : ∃ m', m = m' + 1 := ⟨m - 1, by omega⟩
    refine ⟨w, by rw [crc_Table.l0_succ, cFalse (by simp; omega)], ?_, fun w0 h _ => h⟩
    have : xs = tab := by
      apply List.ext_getElem (by rw [hl, tab_len])
      intro i h1 h2
      have := hx i (by omega)
      rw [← tab_get (by omega), List.getD_eq_getElem?_getD, List.getD_eq_getElem?_getD, List.getElem?_eq_getElem h1, List.getElem?_eq_getElem h2] at this
      simpa using this
    rw [← this]; exact ho
  | succ k ih =>
    intro m xs w hj hm ho hx hl
    obtain ⟨m, rfl⟩ : ∃ m', m = m' + 1 := ⟨m - 1, by omega⟩
    have h1 := Table_l1 (n := n) (w := w) A 256 c (j : Int) 256 (j : Int) 0 8 n (IntKind.u32.wrap j) rfl (by omega)
    obtain ⟨a, w', rfl, hb, hw', ho', hg, hst⟩ := ho.store (i := (j : Int)) (by omega) (by omega) (many 8 (IntKind.u32.wrap j))
    have hi : IntKind.i64.wrap ((j : Int) + 1) = ((j + 1 : Nat) : Int) := by rw [i64_in _ (by omega)]; omega
    have hu : IntKind.u32.wrap (j : Int) = j := u32_in _ (by omega)
    obtain ⟨w2, h2, h3, h4⟩ := ih (j + 1) m (xs.set j (many 8 j)) w' (by omega) (by omega) (by simpa [hu] using ho') (fun i hi => by
      by_cases hij : i = j
      · subst hij; simp [List.getD_eq_getElem?_getD, hl, show i < 256 by omega]
      · have := hx i (by omega)
        rw [List.getD_eq_getElem?_getD] at this ⊢
        rw [List.getElem?_set_ne (by omega)]; exact this) (by simp [hl])
    refine ⟨w2, ?_, h3, fun w0 h h' => h4 w0 ?_ h'⟩
    · have h1' : crc_Table.l1 n n (some a) 256 c (j : Int) (IntKind.u32.wrap (j : Int)) 256 (j : Int) 0 w = _ := h1
      rw [crc_Table.l0_succ, cFin (by simp; omega), h1', jb_exit]
      simp only [tC_mk, tL_mk, tI_mk, tN_mk, hi]
      rw [← h2]
      exact hst _
    · rw [hw']; exact h.st (by simpa [Addr.add] using (by split <;> simpa using Nat.le_trans h' hb)) _
theorem Table_spec (hn : 300 ≤ n) (w : World) : ∃ A c w', crc_Table n [] w = some ([.slice A 256 c], w') ∧ Own .u32 122 w' w.heap.size (.slice A 256 c) tab ∧ Kp w w' := by
  obtain ⟨i, hT⟩ := slT34
  obtain ⟨w1, h1, h2, h3⟩ := make_run hT w 256 (by decide)
  obtain ⟨w2, h4, h5, h6⟩ := Table_l0 (n := n) hn w.heap.size _ 256 0 256 n (List.replicate 256 0) w1 rfl (by omega) h2 (by intro i hi; omega) List.length_replicate
  refine ⟨_, _, w2, ?_, h5, h6 w h3 (Nat.le_refl _)⟩
  have h1' := fun (f : Value → World → Option Res) => h1 f
  have h4' : crc_Table.l0 n n (some ⟨w.heap.size, 0, none⟩) 256 256 256 0 w1 = _ := h4
  rw [crc_Table_eq]
  have e : ((256 : Nat) : Int) = 256 := rfl
  rw [e] at h1'
  rw [h1']
  simp only [tL_mk, e]
  rw [h4', jb_exit]
  rfl
def sumG (t : List Int) : List Int → Int → Int
  | [], x => x
  | b :: bs, x => sumG t bs (bits .xor .u32 (Int.fdiv x (2 ^ 8)) (t.getD (bits .xor .u8 (IntKind.u8.wrap x) b).toNat 0))
def sum (b : List Int) : Int := bits .xor .u32 4294967295 (sumG tab b 4294967295)
theorem u8_range (op : BinOp) (x y : Int) : 0 ≤ bits op .u8 x y ∧ bits op .u8 x y < 256 := by
  unfold bits
  rw [IntKind.wrap_u8]
  omega
theorem Sum_l0 (A : Option Addr) (c : Nat) (t : List Int) (ht : Sl .u32 w A 256 t) (B : Option Addr) (l d : Nat) (b : List Int) (hb : Sl .u8 w B l b) (hl : l < 2 ^ 50) :
    ∀ (k j m : Nat) (x : Int), j + k = l → k < m → crc_Sum.l0 n m A 256 c x B l d (l : Int) (j : Int) w = some ⟨.exit 0, [.int .u32 (sumG t (b.drop j) x)], w⟩ := by
  intro k
  induction k with
  | zero =>
    intro j m x hj hm
    obtain ⟨m, rfl⟩ : ∃ m', m = m' + 1 := ⟨m - 1, by omega⟩
    rw [crc_Sum.l0_succ, cFalse (by simp; omega), List.drop_of_length_le (by rw [hb.1]; omega)]
    rfl
  | succ k ih =>
    intro j m x hj hm
    obtain ⟨m, rfl⟩ : ∃ m', m = m' + 1 := ⟨m - 1, by omega⟩
    have hi : IntKind.i64.wrap ((j : Int) + 1) = ((j + 1 : Nat) : Int) := by rw [i64_in _ (by omega)]; omega
    have hlen : j < b.length := by rw [hb.1]; omega
    rw [crc_Sum.l0_succ, cFin (by simp; omega), hb.ix (by omega) (by omega), hi, Int.toNat_natCast, ht.ix (u8_range _ _ _).1 (u8_range _ _ _).2, ih (j + 1) m _ (by omega) (by omega)]
    rw [List.drop_eq_getElem_cons hlen, sumG]
    simp [List.getD_eq_getElem?_getD, hlen]
theorem Sum_spec (hn : 300 ≤ n) (hn2 : 2 ^ 50 < n) (A : Option Addr) (c : Nat) (t : List Int) (ht : Sl .u32 w A 256 t) (B : Option Addr) (l d : Nat) (b : List Int) (hb : Sl .u8 w B l b) (hl : l < 2 ^ 50) :
    crc_Sum n [.slice A 256 c, .slice B l d] w = some ([.int .u32 (bits .xor .u32 4294967295 (sumG t b 4294967295))], w) := by
  have h := Sum_l0 (n := n) A c t ht B l d b hb hl l 0 n 4294967295 (by omega) (by omega)
  have h : crc_Sum.l0 n n A 256 c 4294967295 B l d (l : Int) 0 w = _ := h
  rw [crc_Sum_eq]
  simp only [bne_self_eq_false, cond_false, jm_norm, tC_mk, tL_mk, tN_mk, show (((256 : Nat) : Int) != 256) = false from rfl]
  rw [h, jb_exit]
  rfl
end
end Go.Proofs.YtdcdgmiojlldaaaDoor.Crc
/- The sum as a walk over bit vectors; what the reference's sum comes to; masks. -/
namespace Go.Proofs.YtdcdgmiojlldaaaDoor.Crc
open Go Big Go.RowKit Go.IntWalk
set_option linter.unusedVariables false
set_option linter.unusedSimpArgs false
def poly : BitVec 32 := 2197175160#32
def oneB (x : BitVec 32) : BitVec 32 := cond (x.getLsbD 0) ((x >>> 1) ^^^ poly) (x >>> 1)
def manyB : Nat → BitVec 32 → BitVec 32
  | 0, x => x
  | n + 1, x => manyB n (oneB x)
abbrev I (x : BitVec 32) : Int := (x.toNat : Int)
abbrev J (x : BitVec 8) : Int := (x.toNat : Int)
theorem xor32 (a b : BitVec 32) : bits .xor .u32 (I a) (I b) = I (a ^^^ b) := by
  unfold bits
  simp only [IntKind.bits, BitVec.ofInt_natCast]
  have e : ∀ x : BitVec 32, BitVec.ofNat 32 x.toNat = x := fun x => by simp
  show IntKind.u32.wrap (((BitVec.ofNat 32 a.toNat ^^^ BitVec.ofNat 32 b.toNat).toNat : Nat) : Int) = _
  rw [e a, e b]
  have := (a ^^^ b).isLt
  exact u32_in _ (by omega)
theorem and32 (a b : BitVec 32) : bits .and .u32 (I a) (I b) = I (a &&& b) := by
  unfold bits
  simp only [IntKind.bits, BitVec.ofInt_natCast]
  have e : ∀ x : BitVec 32, BitVec.ofNat 32 x.toNat = x := fun x => by simp
  show IntKind.u32.wrap (((BitVec.ofNat 32 a.toNat &&& BitVec.ofNat 32 b.toNat).toNat : Nat) : Int) = _
  rw [e a, e b]
  have := (a &&& b).isLt
  exact u32_in _ (by omega)
theorem xor8 (a b : BitVec 8) : bits .xor .u8 (J a) (J b) = J (a ^^^ b) := by
  unfold bits
  simp only [IntKind.bits, BitVec.ofInt_natCast]
  have e : ∀ x : BitVec 8, BitVec.ofNat 8 x.toNat = x := fun x => by simp
  show IntKind.u8.wrap (((BitVec.ofNat 8 a.toNat ^^^ BitVec.ofNat 8 b.toNat).toNat : Nat) : Int) = _
  rw [e a, e b]
  have := (a ^^^ b).isLt
  exact u8_in _ (by omega)
theorem shr32 (a : BitVec 32) (k : Nat) : Int.fdiv (I a) (2 ^ k) = I (a >>> k) := by
  rw [Int.fdiv_eq_ediv_of_nonneg _ (Int.le_of_lt (Int.pow_pos (by decide)))]
  show ((a.toNat : Int)) / 2 ^ k = ((a >>> k).toNat : Int)
  rw [BitVec.toNat_ushiftRight, Nat.shiftRight_eq_div_pow, Int.natCast_ediv, Int.natCast_pow]; rfl
theorem wrap8 (a : BitVec 32) : IntKind.u8.wrap (I a) = J (a.setWidth 8) := by
  rw [IntKind.wrap_u8]
  show (a.toNat : Int) % 256 = ((a.setWidth 8).toNat : Int)
  rw [BitVec.toNat_setWidth]; omega
theorem low_bit (x : BitVec 32) : ((bits .and .u32 (I x) 1) == 1) = x.getLsbD 0 := by
  have h1 : (1 : Int) = I 1#32 := rfl
  rw [h1, and32]
  have e : (x &&& 1#32).toNat = x.toNat % 2 := by rw [BitVec.toNat_and]; exact Nat.and_one_is_mod _
  have e2 : x.getLsbD 0 = decide (x.toNat % 2 = 1) := by rw [BitVec.getLsbD, Nat.testBit_zero]
  rw [e2]
  show ((((x &&& 1#32).toNat : Nat) : Int) == ((1 : Nat) : Int)) = _
  rw [e, Bool.eq_iff_iff]
  simp; omega
theorem one_I (x : BitVec 32) : one (I x) = I (oneB x) := by
  unfold one oneB
  rw [low_bit, shr32]
  cases x.getLsbD 0
  · rfl
  · have h : (2197175160 : Int) = I poly := rfl
    rw [h, cond_true, cond_true, xor32]
theorem many_I : ∀ (n : Nat) (x : BitVec 32), many n (I x) = I (manyB n x)
  | 0, x => rfl
  | n + 1, x => by rw [many, one_I, many_I n, manyB]
theorem oneB_xor (a b : BitVec 32) : oneB (a ^^^ b) = oneB a ^^^ oneB b := by
  have hs : (a ^^^ b) >>> 1 = a >>> 1 ^^^ b >>> 1 := BitVec.ushiftRight_xor_distrib ..
  unfold oneB
  rw [BitVec.getLsbD_xor, hs]
  generalize a >>> 1 = u
  generalize b >>> 1 = v
  generalize poly = p
  cases a.getLsbD 0 <;> cases b.getLsbD 0 <;> simp only [cond_true, cond_false, Bool.xor_true, Bool.xor_false, Bool.not_true, Bool.not_false, Bool.false_xor, Bool.true_xor]
  · ac_rfl
  · ac_rfl
  · rw [show u ^^^ p ^^^ (v ^^^ p) = (u ^^^ v) ^^^ (p ^^^ p) by ac_rfl, BitVec.xor_self, BitVec.xor_zero]
theorem manyB_xor : ∀ (n : Nat) (a b : BitVec 32), manyB n (a ^^^ b) = manyB n a ^^^ manyB n b
  | 0, _, _ => rfl
  | n + 1, a, b => by rw [manyB, oneB_xor, manyB_xor n]; rfl
theorem manyB_shift : ∀ (k : Nat) (v : BitVec 32) (u : Nat), v.toNat = 2 ^ k * u → (manyB k v).toNat = u
  | 0, v, u, h => by show v.toNat = u; simpa using h
  | k + 1, v, u, h => by
    refine manyB_shift k (oneB v) u ?_
    have h2 : v.toNat = 2 * (2 ^ k * u) := by rw [h, Nat.pow_succ]; ac_rfl
    unfold oneB
    have hb : v.getLsbD 0 = false := by rw [BitVec.getLsbD, Nat.testBit_zero, decide_eq_false_iff_not]; omega
    rw [hb, cond_false, BitVec.toNat_ushiftRight, Nat.shiftRight_eq_div_pow]
    omega
def stepB (s : BitVec 32) (b : BitVec 8) : BitVec 32 := manyB 8 (s ^^^ b.setWidth 32)
theorem step_table (x : BitVec 32) (b : BitVec 8) : (x >>> 8) ^^^ manyB 8 ((x.setWidth 8 ^^^ b).setWidth 32) = stepB x b := by
  have e : x ^^^ b.setWidth 32 = ((x >>> 8) <<< 8) ^^^ ((x.setWidth 8 ^^^ b).setWidth 32) := by
    apply BitVec.eq_of_getLsbD_eq
    intro i hi
    simp only [BitVec.getLsbD_xor, BitVec.getLsbD_setWidth, BitVec.getLsbD_shiftLeft, BitVec.getLsbD_ushiftRight]
    by_cases h8 : i < 8
    · simp [h8, hi, show i < 32 from hi]
    · have : b.getLsbD i = false := BitVec.getLsbD_of_ge b i (by omega)
      simp [h8, this, hi, show i < 32 from hi, show 8 + (i - 8) = i by omega]
  unfold stepB
  rw [e, manyB_xor]
  congr 1
  apply BitVec.eq_of_toNat_eq
  symm
  apply manyB_shift
  rw [BitVec.toNat_shiftLeft, BitVec.toNat_ushiftRight, Nat.shiftLeft_eq, Nat.shiftRight_eq_div_pow]
  have := x.isLt
  omega
def runB (s : BitVec 32) : List (BitVec 8) → BitVec 32
  | [] => s
  | b :: bs => runB (stepB s b) bs
theorem sumG_I : ∀ (bs : List (BitVec 8)) (s : BitVec 32), sumG tab (bs.map J) (I s) = I (runB s bs)
  | [], s => rfl
  | b :: bs, s => by
    rw [List.map_cons, sumG, shr32, wrap8, xor8, Int.toNat_natCast, tab_get (BitVec.isLt _)]
    have e : (((s.setWidth 8 ^^^ b).toNat : Nat) : Int) = I ((s.setWidth 8 ^^^ b).setWidth 32) := by
      have := (s.setWidth 8 ^^^ b).isLt
      show _ = (((s.setWidth 8 ^^^ b).setWidth 32).toNat : Int)
      rw [BitVec.toNat_setWidth]; omega
    rw [e, many_I, xor32, step_table, sumG_I bs]; rfl
def top : BitVec 32 := 4294967295#32
theorem sum_I (bs : List (BitVec 8)) : sum (bs.map J) = I (top ^^^ runB top bs) := by
  have e : (4294967295 : Int) = I top := rfl
  unfold sum
  rw [e, sumG_I, xor32]
theorem bytes_of {xs : List Int} (h : ∀ x ∈ xs, 0 ≤ x ∧ x ≤ 255) : ∃ bs : List (BitVec 8), xs = bs.map J := by
  induction xs with
  | nil => exact ⟨[], rfl⟩
  | cons x xs ih =>
    obtain ⟨bs, hb⟩ := ih fun y hy => h y (List.mem_cons_of_mem _ hy)
    have := h x List.mem_cons_self
    refine ⟨BitVec.ofNat 8 x.toNat :: bs, ?_⟩
    rw [List.map_cons, ← hb]
    congr 1
    show x = ((BitVec.ofNat 8 x.toNat).toNat : Int)
    rw [BitVec.toNat_ofNat]; omega
theorem step_l0 {n : Nat} {w : World} : ∀ (k j m : Nat) (x : Int), j + k = 8 → k < m → butteryref1_step.l0 n m x (j : Int) w = some ⟨.exit 0, [.int .u32 (many k x)], w⟩ := by
  intro k
  induction k with
  | zero =>
    intro j m x hj hm
    obtain ⟨m, rfl⟩ : ∃ m', m = m' + 1 := ⟨m - 1, by omega⟩
    rw [butteryref1_step.l0_succ, cF (by simp; omega)]
    rfl
  | succ k ih =>
    intro j m x hj hm
    obtain ⟨m, rfl⟩ : ∃ m', m = m' + 1 := ⟨m - 1, by omega⟩
    rw [butteryref1_step.l0_succ, cT (by simp; omega)]
    have hi : IntKind.i64.wrap ((j : Int) + 1) = ((j + 1 : Nat) : Int) := by rw [i64_in _ (by omega)]; omega
    have e := fun x => ih (j + 1) m x (by omega) (by omega)
    unfold many one
    cases hb : ((bits .and .u32 x 1) == 1)
    · rw [cF (x := false) rfl, jb_norm, tC_mk, tI_mk, tC_mk, tI_mk, tN_mk, hi, cF (x := false) rfl]; exact e _
    · rw [cT (x := true) rfl, jb_norm, tC_mk, tI_mk, tC_mk, tI_mk, tN_mk, hi, cT (x := true) rfl]; exact e _
theorem step_spec {n : Nat} (hn : 300 ≤ n) (x : Int) (w : World) : butteryref1_step n [.int .u32 x] w = some ([.int .u32 (many 8 x)], w) := by
  have h : butteryref1_step.l0 n n x 0 w = _ := step_l0 8 0 n x rfl (by omega)
  rw [butteryref1_step_eq, h, jb_exit, tC_mk, tI_mk, tN_mk, fin_ret]
theorem and255 (x : BitVec 32) (b : BitVec 8) : bits .and .u32 (bits .xor .u32 (I x) (IntKind.u32.wrap (J b))) 255 = I ((x.setWidth 8 ^^^ b).setWidth 32) := by
  have hb := b.isLt
  have e1 : IntKind.u32.wrap (J b) = I (b.setWidth 32) := by
    rw [u32_in (J b) (by show (0:Int) ≤ (b.toNat : Int) ∧ (b.toNat : Int) ≤ 4294967295; omega)]
    show (b.toNat : Int) = ((b.setWidth 32).toNat : Int)
    rw [BitVec.toNat_setWidth]; omega
  have e2 : (255 : Int) = I 255#32 := rfl
  rw [e1, xor32, e2, and32]
  congr 1
  apply BitVec.eq_of_toNat_eq
  rw [BitVec.toNat_and, BitVec.toNat_xor, BitVec.toNat_setWidth, BitVec.toNat_setWidth, BitVec.toNat_xor, BitVec.toNat_setWidth]
  have e3 : (255#32).toNat = 2 ^ 8 - 1 := rfl
  have h1 : (x.toNat ^^^ b.toNat) % 2 ^ 8 = x.toNat % 2 ^ 8 ^^^ b.toNat := by rw [Nat.xor_mod_two_pow, Nat.mod_eq_of_lt hb]
  have h2 : x.toNat % 2 ^ 8 ^^^ b.toNat < 2 ^ 8 := Nat.xor_lt_two_pow (Nat.mod_lt _ (by decide)) hb
  have h3 : (x.toNat % 2 ^ 8 ^^^ b.toNat) % 2 ^ 32 = x.toNat % 2 ^ 8 ^^^ b.toNat := Nat.mod_eq_of_lt (by omega)
  rw [e3, Nat.and_two_pow_sub_one_eq_mod, Nat.mod_eq_of_lt (show b.toNat < 2 ^ 32 by omega), h1, h3]
theorem Crc_l0 {n : Nat} (hn : 300 ≤ n) {w : World} {B : Option Addr} {l d : Nat} {bs : List (BitVec 8)} (hb : Sl .u8 w B l (bs.map J)) (hl : l < 2 ^ 40) :
    ∀ (k j m : Nat) (x : BitVec 32), j + k = l → k < m → butteryref1_Crc.l0 n m B l d (I x) (j : Int) w = some ⟨.exit 0, [.int .u32 (I (runB x (bs.drop j)))], w⟩ := by
  have hlen : bs.length = l := by have := hb.1; simpa using this
  intro k
  induction k with
  | zero =>
    intro j m x hj hm
    obtain ⟨m, rfl⟩ : ∃ m', m = m' + 1 := ⟨m - 1, by omega⟩
    rw [butteryref1_Crc.l0_succ, cF (by simp; omega), List.drop_of_length_le (by omega)]
    rfl
  | succ k ih =>
    intro j m x hj hm
    obtain ⟨m, rfl⟩ : ∃ m', m = m' + 1 := ⟨m - 1, by omega⟩
    have hi : IntKind.i64.wrap ((j : Int) + 1) = ((j + 1 : Nat) : Int) := by rw [i64_in _ (by omega)]; omega
    have hj' : j < bs.length := by omega
    have e1 : (bs.map J).getD j 0 = J bs[j] := by simp [List.getD_eq_getElem?_getD, hj']
    rw [butteryref1_Crc.l0_succ, cT (by simp; omega), hb.ix (by omega) (by omega), hi, Int.toNat_natCast, e1, and255, step_spec hn, cl1I, many_I, shr32, xor32, step_table, ih (j + 1) m _ (by omega) (by omega)]
    rw [List.drop_eq_getElem_cons hj', runB]
theorem Crc_spec {n : Nat} (hn : 2 ^ 50 < n) {w : World} {B : Option Addr} {l d : Nat} {b : List Int} (hb : Sl .u8 w B l b) (wb : ∀ x ∈ b, 0 ≤ x ∧ x ≤ 255) (hl : l < 2 ^ 40) :
    butteryref1_Crc n [.slice B l d] w = some ([.int .u32 (sum b)], w) := by
  obtain ⟨bs, rfl⟩ := bytes_of wb
  have h : butteryref1_Crc.l0 n n B l d 4294967295 0 w = _ := Crc_l0 (n := n) (d := d) (by omega) hb hl l 0 n top (by omega) (by omega)
  rw [butteryref1_Crc_eq, h, jb_exit, tC_mk, tI_mk, tN_mk, fin_ret, sum_I]
  have e : (4294967295 : Int) = I top := rfl
  rw [e, xor32]; rfl
section
variable {n : Nat} {w : World} {A B : Option Addr} {l c m d : Nat} {bs : List Int}
def RTab (w0 : World) : List Value × World → Prop := fun r => ∃ A c w', r = ([.slice A 256 c], w') ∧ Own .u32 122 w' w0.heap.size (.slice A 256 c) tab ∧ Kp w0 w'
theorem Table_rt (hn : 2 ^ 50 < n) : Rt (crc_Table n [] w) (RTab w) := by
  obtain ⟨A, c, w', h1, h2, h3⟩ := Table_spec (n := n) (by omega) w
  exact Rt.of h1 ⟨A, c, w', rfl, h2, h3⟩
theorem Sum_rt (hn : 2 ^ 50 < n) (ht : Sl .u32 w A 256 tab) (hb : Sl .u8 w B l bs) (hl : l < 2 ^ 50) : Rt (crc_Sum n [.slice A 256 c, .slice B l d] w) (RI .u32 (sum bs) w) :=
  Rt.of (Sum_spec (n := n) (by omega) hn A c tab ht B l d bs hb hl) ⟨w, rfl, Kp.rfl' w⟩
end
def mask (x : Int) : Int := IntKind.u32.wrap ((bits .or .u32 (Int.fdiv x (2 ^ 15)) (IntKind.u32.wrap (x * 2 ^ 17))) + 2726488792)
theorem mask_range (x : Int) : 0 ≤ mask x ∧ mask x < 2 ^ 32 := by
  unfold mask
  rw [IntKind.wrap_u32]
  omega
theorem Mask_spec {n : Nat} (x : Int) (w : World) : crc_Mask n [.int .u32 x] w = some ([.int .u32 (mask x)], w) := by rw [crc_Mask_eq, fin_ret, mask]
theorem RMask_spec {n : Nat} (x : Int) (w : World) : butteryref1_Mask n [.int .u32 x] w = some ([.int .u32 (mask x)], w) := by rw [butteryref1_Mask_eq, fin_ret, mask]
end Go.Proofs.YtdcdgmiojlldaaaDoor.Crc
