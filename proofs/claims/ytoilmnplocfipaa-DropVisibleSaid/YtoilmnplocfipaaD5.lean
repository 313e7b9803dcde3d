/- Drop: which pairs are visible; the program's Visible; when two lists of pairs are one. -/
import Derived.Test.YtoilmnplocfipaaD2
import Derived.Test.YtoilmnplocfipaaDM
namespace Go.Proofs.Ytoilmnplocfipaa.Dr
open Go Big Go.RowKit Go.IntWalk Ik
set_option linter.unusedVariables false
set_option linter.unusedSimpArgs false
theorem slP : ∃ i v, SlTE Try.prog 57 88 2 i v := slTE (by kernel_rfl)
abbrev Pr := List Int × List Int
structure PrV (w : World) (A : Option Addr) (l c : Nat) (B : Option Addr) (m d : Nat) (x : Pr) : Prop where
  key : Bv .u8 w A l c x.1
  val : Bv .u8 w B m d x.2
def prEl : El Pr where
  sz := 2
  rd w vs x := ∃ A l c B m d, vs = [.slice A l c, .slice B m d] ∧ PrV w A l c B m d x
  kp := fun hk ⟨A, l, c, B, m, d, e, h⟩ => ⟨A, l, c, B, m, d, e, h.key.kp hk, h.val.kp hk⟩
  one := fun ⟨A, l, c, B, m, d, e, h⟩ u hu => by subst e; simp only [List.mem_cons, List.not_mem_nil, or_false] at hu; rcases hu with rfl | rfl <;> rfl
def seenAt (q : Int) (g : List En) : List Pr :=
  match g.find? fun x => decide (x.seq ≤ q) with
  | some x => if x.kind = 1 then [(x.key, x.val)] else []
  | none => []
def visF (q : Int) : Nat → List En → List Pr
  | 0, _ => []
  | _ + 1, [] => []
  | f + 1, x :: l => seenAt q ((x :: l).take (grp (x :: l))) ++ visF q f ((x :: l).drop (grp (x :: l)))
def visP (q : Int) (l : List En) : List Pr := visF q l.length l
theorem visF_fuel {q : Int} : ∀ (f f' : Nat) (l : List En), l.length ≤ f → l.length ≤ f' → visF q f l = visF q f' l
  | 0, 0, l, _, _ => rfl
  | 0, f' + 1, [], _, _ => rfl
  | f + 1, 0, [], _, _ => rfl
  | f + 1, f' + 1, [], _, _ => rfl
  | 0, f' + 1, x :: l, h, _ => by simp at h
  | f + 1, 0, x :: l, _, h => by simp at h
  | f + 1, f' + 1, x :: l, h, h' => by
    unfold visF
    have h1 := grp_pos (l := x :: l) (by simp)
    congr 1
    apply visF_fuel <;> · rw [List.length_drop]; omega
theorem visP_cons {q : Int} {l : List En} (h : l ≠ []) : visP q l = seenAt q (l.take (grp l)) ++ visP q (l.drop (grp l)) := by
  have h1 := grp_pos h
  cases l with
  | nil => exact absurd rfl h
  | cons x l =>
    unfold visP
    rw [List.length_cons, visF]
    congr 1
    apply visF_fuel <;> · rw [List.length_drop, List.length_cons]; omega
theorem visP_nil {q : Int} : visP q [] = [] := rfl
theorem visP_cons' {q : Int} {x : En} {l : List En} : visP q (x :: l) = seenAt q (x :: same x l) ++ visP q (rest x l) := by
  rw [visP_cons (by simp), (take_grp x l).1, (take_grp x l).2]
theorem seenAt_len {q : Int} {g : List En} : (seenAt q g).length ≤ 1 := by
  unfold seenAt
  split
  · split <;> simp
  · simp
open Classical in
noncomputable def visR (q : Int) (l : List En) : List Pr := if risingE l then visP q l else []
def RPv (xs : List Pr) (w0 : World) : List Value × World → Prop := fun r => ∃ B d w', r = ([.slice B xs.length d], w') ∧ Ev prEl w' B xs.length d xs ∧ Kp w0 w'
section
variable {α : Type} {Q : α → Prop} {n base : Nat} {w w0 w' : World} {A B C D : Option Addr} {l c m d a1 a2 b1 b2 : Nat} {s k s' k' : Int} {x y : En} {xs ys zs : List En} {ss : List Int} {v : Value} {ps qs : List Pr}
theorem Rt.cPv {x : Option (List Value × World)} (h : Rt x (RPv ps w0)) {f : Option Addr → Nat → Nat → World → Option α} (hf : ∀ B d w1, Ev prEl w1 B ps.length d ps → Kp w0 w1 → Rt (f B ps.length d w1) Q) :
    Rt (Big.cl x fun vs w => Big.tC vs fun u cs => Big.tL u fun A l c => Big.tN cs (f A l c w)) Q := by
  obtain ⟨_, rfl, B, d, w1, rfl, o, k1⟩ := h
  exact hf B d w1 o k1
theorem Rt.ixP (hs : SlE prEl w A l ps) {i : Int} (h0 : 0 ≤ i) (h1 : i < l) {f : Addr → Option α}
    (h : ∀ x a B b1 b2 C c1 c2, ps[i.toNat]? = some x → PrV w B b1 b2 C c1 c2 x → w.cell? a = some (.slice B b1 b2) → w.cell? (a.add 1) = some (.slice C c1 c2) → Rt (f a) Q) : Rt (ixA A l i 2 f) Q := by
  refine Rt.ixe hs rfl h0 h1 fun x a us e1 _ e3 e4 => ?_
  obtain ⟨B, b1, b2, C, c1, c2, rfl, hv⟩ := e3
  have c0 := e4 0 _ rfl
  rw [Addr.add_zero'] at c0
  exact h x a B b1 b2 C c1 c2 e1 hv c0 (e4 1 _ rfl)
theorem SamePairs_l0 (hx : Ev prEl w A l c ps) (hy : Ev prEl w B l d qs) (hl : l < 2 ^ 62) : ∀ (q i j : Nat) (w' : World), i + q = l → q < j → Kp w w' → ps.take i = qs.take i →
    Rt (butteryref9_SamePairs.l0 n j A l c B l d (i : Int) w') fun r => Kp w r.w ∧ (r.ex = .exit 0 ∧ r.vals = [] ∧ ps = qs ∨ r.ex = .ret ∧ r.vals = [.bool false] ∧ ps ≠ qs) := by
  have hxl := hx.len
  have hyl := hy.len
  intro q
  induction q with
  | zero =>
    intro i j w' hi hj hk he
    obtain ⟨j, rfl⟩ : ∃ j', j = j' + 1 := ⟨j - 1, by omega⟩
    rw [butteryref9_SamePairs.l0_succ]
    exact Rt.cDF (by omega) (Rt.some' ⟨hk, .inl ⟨rfl, rfl, by rwa [List.take_of_length_le (by omega), List.take_of_length_le (by omega)] at he⟩⟩)
  | succ q ih =>
    intro i j w' hi hj hk he
    obtain ⟨j, rfl⟩ : ∃ j', j = j' + 1 := ⟨j - 1, by omega⟩
    rw [butteryref9_SamePairs.l0_succ]
    have hk := hk.dr
    obtain ⟨x, ex⟩ : ∃ x, ps[i]? = some x := ⟨_, List.getElem?_eq_getElem (by omega)⟩
    obtain ⟨y, ey⟩ : ∃ y, qs[i]? = some y := ⟨_, List.getElem?_eq_getElem (by omega)⟩
    have ne : x ≠ y → ps ≠ qs := fun h e => h (by subst e; rw [ex] at ey; injection ey)
    refine Rt.cDT (by omega) (Rt.ixP (hx.kp hk).sl (by omega) (by omega) fun x1 a B1 b1 b2 C1 c1 c2 e1 hv g0 g1 => ?_)
    rw [Int.toNat_natCast, ex] at e1
    injection e1 with e1
    subst e1
    (repeat (first | (with_reducible (first | refine Rt.fin ?_ | refine Rt.tL ?_ | refine Rt.tI ?_ | refine Rt.tB ?_ | refine Rt.tS ?_ | refine Rt.tP ?_ | refine Rt.tD ?_ | refine Rt.tM ?_ | refine Rt.tC ?_ | refine Rt.tN ?_ | refine Rt.tA ?_ | refine Rt.tG ?_ | refine Rt.tF ?_ | refine Rt.os ?_ | refine Rt.clS ?_ | refine Rt.jmN ?_ | refine Rt.jbN ?_ | refine Rt.jbE ?_)) | ((with_reducible (first | apply Rt.ld0 | apply Rt.ld1 | apply Rt.ld2 | apply Rt.ld3 | apply Rt.ld4 | apply Rt.ld5)); first | assumption | exact Lc.kp (by assumption) (by assumption)) | ((with_reducible apply Rt.ol); first | assumption | exact cell_kp (by assumption) (by assumption)) | ((with_reducible apply Rt.ckR); focus ((repeat (first | (with_reducible (first | refine Rt.fin ?_ | refine Rt.tL ?_ | refine Rt.tI ?_ | refine Rt.tB ?_ | refine Rt.tS ?_ | refine Rt.tP ?_ | refine Rt.tD ?_ | refine Rt.tM ?_ | refine Rt.tC ?_ | refine Rt.tN ?_ | refine Rt.tA ?_ | refine Rt.tG ?_ | refine Rt.tF ?_ | refine Rt.os ?_ | refine Rt.clS ?_ | refine Rt.jmN ?_ | refine Rt.jbN ?_ | refine Rt.jbE ?_)) | ((with_reducible (first | apply Rt.ld0 | apply Rt.ld1 | apply Rt.ld2 | apply Rt.ld3 | apply Rt.ld4 | apply Rt.ld5)); first | assumption | exact Lc.kp (by assumption) (by assumption)) | ((with_reducible apply Rt.ol); first | assumption | exact cell_kp (by assumption) (by assumption)))); exact Rt.some' rfl))))
    refine Rt.str hv.key (Rt.ixP (hy.kp hk).sl (by omega) (by omega) fun y1 a B1 b1 b2 C1 c1 c2 e1 hv' g0' g1' => ?_)
    rw [Int.toNat_natCast, ey] at e1
    injection e1 with e1
    subst e1
    (repeat (first | (with_reducible (first | refine Rt.fin ?_ | refine Rt.tL ?_ | refine Rt.tI ?_ | refine Rt.tB ?_ | refine Rt.tS ?_ | refine Rt.tP ?_ | refine Rt.tD ?_ | refine Rt.tM ?_ | refine Rt.tC ?_ | refine Rt.tN ?_ | refine Rt.tA ?_ | refine Rt.tG ?_ | refine Rt.tF ?_ | refine Rt.os ?_ | refine Rt.clS ?_ | refine Rt.jmN ?_ | refine Rt.jbN ?_ | refine Rt.jbE ?_)) | ((with_reducible (first | apply Rt.ld0 | apply Rt.ld1 | apply Rt.ld2 | apply Rt.ld3 | apply Rt.ld4 | apply Rt.ld5)); first | assumption | exact Lc.kp (by assumption) (by assumption)) | ((with_reducible apply Rt.ol); first | assumption | exact cell_kp (by assumption) (by assumption)) | ((with_reducible apply Rt.ckR); focus ((repeat (first | (with_reducible (first | refine Rt.fin ?_ | refine Rt.tL ?_ | refine Rt.tI ?_ | refine Rt.tB ?_ | refine Rt.tS ?_ | refine Rt.tP ?_ | refine Rt.tD ?_ | refine Rt.tM ?_ | refine Rt.tC ?_ | refine Rt.tN ?_ | refine Rt.tA ?_ | refine Rt.tG ?_ | refine Rt.tF ?_ | refine Rt.os ?_ | refine Rt.clS ?_ | refine Rt.jmN ?_ | refine Rt.jbN ?_ | refine Rt.jbE ?_)) | ((with_reducible (first | apply Rt.ld0 | apply Rt.ld1 | apply Rt.ld2 | apply Rt.ld3 | apply Rt.ld4 | apply Rt.ld5)); first | assumption | exact Lc.kp (by assumption) (by assumption)) | ((with_reducible apply Rt.ol); first | assumption | exact cell_kp (by assumption) (by assumption)))); exact Rt.some' rfl))))
    refine Rt.str hv'.key (Rt.cSn hv.key.rng hv'.key.rng (fun h1 => ?_) fun h1 => ?_)
    · refine Rt.ixP (hx.kp hk).sl (by omega) (by omega) fun x1 a B1 b1 b2 C1 c1 c2 e1 hv g0 g1 => ?_
      rw [Int.toNat_natCast, ex] at e1
      injection e1 with e1
      subst e1
      (repeat (first | (with_reducible (first | refine Rt.fin ?_ | refine Rt.tL ?_ | refine Rt.tI ?_ | refine Rt.tB ?_ | refine Rt.tS ?_ | refine Rt.tP ?_ | refine Rt.tD ?_ | refine Rt.tM ?_ | refine Rt.tC ?_ | refine Rt.tN ?_ | refine Rt.tA ?_ | refine Rt.tG ?_ | refine Rt.tF ?_ | refine Rt.os ?_ | refine Rt.clS ?_ | refine Rt.jmN ?_ | refine Rt.jbN ?_ | refine Rt.jbE ?_)) | ((with_reducible (first | apply Rt.ld0 | apply Rt.ld1 | apply Rt.ld2 | apply Rt.ld3 | apply Rt.ld4 | apply Rt.ld5)); first | assumption | exact Lc.kp (by assumption) (by assumption)) | ((with_reducible apply Rt.ol); first | assumption | exact cell_kp (by assumption) (by assumption)) | ((with_reducible apply Rt.ckR); focus ((repeat (first | (with_reducible (first | refine Rt.fin ?_ | refine Rt.tL ?_ | refine Rt.tI ?_ | refine Rt.tB ?_ | refine Rt.tS ?_ | refine Rt.tP ?_ | refine Rt.tD ?_ | refine Rt.tM ?_ | refine Rt.tC ?_ | refine Rt.tN ?_ | refine Rt.tA ?_ | refine Rt.tG ?_ | refine Rt.tF ?_ | refine Rt.os ?_ | refine Rt.clS ?_ | refine Rt.jmN ?_ | refine Rt.jbN ?_ | refine Rt.jbE ?_)) | ((with_reducible (first | apply Rt.ld0 | apply Rt.ld1 | apply Rt.ld2 | apply Rt.ld3 | apply Rt.ld4 | apply Rt.ld5)); first | assumption | exact Lc.kp (by assumption) (by assumption)) | ((with_reducible apply Rt.ol); first | assumption | exact cell_kp (by assumption) (by assumption)))); exact Rt.some' rfl))))
      refine Rt.str hv.val (Rt.ixP (hy.kp hk).sl (by omega) (by omega) fun y1 a B1 b1 b2 C1 c1 c2 e1 hv' g0' g1' => ?_)
      rw [Int.toNat_natCast, ey] at e1
      injection e1 with e1
      subst e1
      (repeat (first | (with_reducible (first | refine Rt.fin ?_ | refine Rt.tL ?_ | refine Rt.tI ?_ | refine Rt.tB ?_ | refine Rt.tS ?_ | refine Rt.tP ?_ | refine Rt.tD ?_ | refine Rt.tM ?_ | refine Rt.tC ?_ | refine Rt.tN ?_ | refine Rt.tA ?_ | refine Rt.tG ?_ | refine Rt.tF ?_ | refine Rt.os ?_ | refine Rt.clS ?_ | refine Rt.jmN ?_ | refine Rt.jbN ?_ | refine Rt.jbE ?_)) | ((with_reducible (first | apply Rt.ld0 | apply Rt.ld1 | apply Rt.ld2 | apply Rt.ld3 | apply Rt.ld4 | apply Rt.ld5)); first | assumption | exact Lc.kp (by assumption) (by assumption)) | ((with_reducible apply Rt.ol); first | assumption | exact cell_kp (by assumption) (by assumption)) | ((with_reducible apply Rt.ckR); focus ((repeat (first | (with_reducible (first | refine Rt.fin ?_ | refine Rt.tL ?_ | refine Rt.tI ?_ | refine Rt.tB ?_ | refine Rt.tS ?_ | refine Rt.tP ?_ | refine Rt.tD ?_ | refine Rt.tM ?_ | refine Rt.tC ?_ | refine Rt.tN ?_ | refine Rt.tA ?_ | refine Rt.tG ?_ | refine Rt.tF ?_ | refine Rt.os ?_ | refine Rt.clS ?_ | refine Rt.jmN ?_ | refine Rt.jbN ?_ | refine Rt.jbE ?_)) | ((with_reducible (first | apply Rt.ld0 | apply Rt.ld1 | apply Rt.ld2 | apply Rt.ld3 | apply Rt.ld4 | apply Rt.ld5)); first | assumption | exact Lc.kp (by assumption) (by assumption)) | ((with_reducible apply Rt.ol); first | assumption | exact cell_kp (by assumption) (by assumption)))); exact Rt.some' rfl))))
      refine Rt.str hv'.val (Rt.cSn hv.val.rng hv'.val.rng (fun h2 => ?_) fun h2 => ?_)
      · rw [i64_in _ (by omega), show ((i : Int) + 1) = ((i + 1 : Nat) : Int) by omega]
        exact ih (i + 1) j _ (by omega) (by omega) hk (by rw [take_succ_at ex, take_succ_at ey, he, Prod.ext h1 h2])
      · exact Rt.some' ⟨hk, .inr ⟨rfl, rfl, ne fun e => h2 (by rw [e])⟩⟩
    · exact Rt.some' ⟨hk, .inr ⟨rfl, rfl, ne fun e => h1 (by rw [e])⟩⟩
theorem SamePairs_spec (hx : Ev prEl w A l c ps) (hy : Ev prEl w B m d qs) (hl : l < 2 ^ 62) (hn : l < n) : Rt (butteryref9_SamePairs n [.slice A l c, .slice B m d] w) (RB (ps = qs) w) := by
  have hxl := hx.len
  have hyl := hy.len
  rw [butteryref9_SamePairs_eq]
  refine Rt.fin (Rt.cN (fun h => ?_) fun h => ?_)
  · obtain rfl : l = m := by omega
    refine Rt.jb (Rt.mono (SamePairs_l0 (n := n) hx hy hl l 0 n w (by omega) (by omega) (Kp.rfl' w) (by simp)) ?_)
    rintro ⟨ex, vs, w1⟩ ⟨k1, ⟨h3, h4, h5⟩ | ⟨h3, h4, h5⟩⟩
    · dsimp only at h3 h4 k1
      subst h3 h4
      refine .inl ⟨.inr rfl, ?_⟩
      (repeat (first | (with_reducible (first | refine Rt.fin ?_ | refine Rt.tL ?_ | refine Rt.tI ?_ | refine Rt.tB ?_ | refine Rt.tS ?_ | refine Rt.tP ?_ | refine Rt.tD ?_ | refine Rt.tM ?_ | refine Rt.tC ?_ | refine Rt.tN ?_ | refine Rt.tA ?_ | refine Rt.tG ?_ | refine Rt.tF ?_ | refine Rt.os ?_ | refine Rt.clS ?_ | refine Rt.jmN ?_ | refine Rt.jbN ?_ | refine Rt.jbE ?_)) | ((with_reducible (first | apply Rt.ld0 | apply Rt.ld1 | apply Rt.ld2 | apply Rt.ld3 | apply Rt.ld4 | apply Rt.ld5)); first | assumption | exact Lc.kp (by assumption) (by assumption)) | ((with_reducible apply Rt.ol); first | assumption | exact cell_kp (by assumption) (by assumption)) | ((with_reducible apply Rt.ckR); focus ((repeat (first | (with_reducible (first | refine Rt.fin ?_ | refine Rt.tL ?_ | refine Rt.tI ?_ | refine Rt.tB ?_ | refine Rt.tS ?_ | refine Rt.tP ?_ | refine Rt.tD ?_ | refine Rt.tM ?_ | refine Rt.tC ?_ | refine Rt.tN ?_ | refine Rt.tA ?_ | refine Rt.tG ?_ | refine Rt.tF ?_ | refine Rt.os ?_ | refine Rt.clS ?_ | refine Rt.jmN ?_ | refine Rt.jbN ?_ | refine Rt.jbE ?_)) | ((with_reducible (first | apply Rt.ld0 | apply Rt.ld1 | apply Rt.ld2 | apply Rt.ld3 | apply Rt.ld4 | apply Rt.ld5)); first | assumption | exact Lc.kp (by assumption) (by assumption)) | ((with_reducible apply Rt.ol); first | assumption | exact cell_kp (by assumption) (by assumption)))); exact Rt.some' rfl))))
      exact Rt.endB (by simp [h5]) k1
    · dsimp only at h3 h4 k1
      subst h3 h4
      exact .inr ⟨rfl, rfl, false, w1, rfl, by simp [h5], k1⟩
  · exact Rt.endB (by simp only [Bool.false_eq_true, false_iff]; rintro rfl; omega) (Kp.rfl' w)
theorem Find_l0 {q : Int} {bb : Nat} (hs : Ev enEl w A l c xs) (hl : l < 2 ^ 62) (hb : Lc w bb [.int .u64 q]) : ∀ (p i j : Nat) (w' : World), i + p = l → p < j → Kp w w' → (∀ x ∈ xs.take i, ¬ x.seq ≤ q) →
    Rt (api_Entry.l0 n j A l c (.func 56) #[] #[.pointer (some ⟨bb, 0, none⟩)] (l : Int) (i : Int) w') fun r => Kp w r.w ∧ (r.ex = .exit 0 ∧ r.vals = [] ∧ (∀ x ∈ xs, ¬ x.seq ≤ q) ∨ r.ex = .ret ∧ ∃ (i : Nat) (x : En), r.vals = [.int .i64 (i : Int)] ∧ xs[i]? = some x ∧ x.seq ≤ q ∧ ∀ x ∈ xs.take i, ¬ x.seq ≤ q) := by
  have hsl := hs.len
  intro p
  induction p with
  | zero =>
    intro i j w' hi hj hk he
    obtain ⟨j, rfl⟩ : ∃ j', j = j' + 1 := ⟨j - 1, by omega⟩
    rw [api_Entry.l0_succ]
    exact Rt.cDF (by omega) (Rt.some' ⟨hk, .inl ⟨rfl, rfl, by rwa [List.take_of_length_le (by omega)] at he⟩⟩)
  | succ p ih =>
    intro i j w' hi hj hk he
    obtain ⟨j, rfl⟩ : ∃ j', j = j' + 1 := ⟨j - 1, by omega⟩
    rw [api_Entry.l0_succ]
    refine Rt.cDT (by omega) (Rt.ixN (hs.kp hk).sl (by omega) (by omega) fun x a B1 b1 b2 s k C1 c1 c2 ex hv g0 g1 g2 g3 => ?_)
    have ex : xs[i]? = some x := by simpa using ex
    have hsq := hv.seq
    (repeat (first | (with_reducible (first | refine Rt.fin ?_ | refine Rt.tL ?_ | refine Rt.tI ?_ | refine Rt.tB ?_ | refine Rt.tS ?_ | refine Rt.tP ?_ | refine Rt.tD ?_ | refine Rt.tM ?_ | refine Rt.tC ?_ | refine Rt.tN ?_ | refine Rt.tA ?_ | refine Rt.tG ?_ | refine Rt.tF ?_ | refine Rt.os ?_ | refine Rt.clS ?_ | refine Rt.jmN ?_ | refine Rt.jbN ?_ | refine Rt.jbE ?_)) | ((with_reducible (first | apply Rt.ld0 | apply Rt.ld1 | apply Rt.ld2 | apply Rt.ld3 | apply Rt.ld4 | apply Rt.ld5)); first | assumption | exact Lc.kp (by assumption) (by assumption)) | ((with_reducible apply Rt.ol); first | assumption | exact cell_kp (by assumption) (by assumption)) | ((with_reducible apply Rt.ckR); focus ((repeat (first | (with_reducible (first | refine Rt.fin ?_ | refine Rt.tL ?_ | refine Rt.tI ?_ | refine Rt.tB ?_ | refine Rt.tS ?_ | refine Rt.tP ?_ | refine Rt.tD ?_ | refine Rt.tM ?_ | refine Rt.tC ?_ | refine Rt.tN ?_ | refine Rt.tA ?_ | refine Rt.tG ?_ | refine Rt.tF ?_ | refine Rt.os ?_ | refine Rt.clS ?_ | refine Rt.jmN ?_ | refine Rt.jbN ?_ | refine Rt.jbE ?_)) | ((with_reducible (first | apply Rt.ld0 | apply Rt.ld1 | apply Rt.ld2 | apply Rt.ld3 | apply Rt.ld4 | apply Rt.ld5)); first | assumption | exact Lc.kp (by assumption) (by assumption)) | ((with_reducible apply Rt.ol); first | assumption | exact cell_kp (by assumption) (by assumption)))); exact Rt.some' rfl))))
    refine Rt.ol (v := drop_Visible_1 n) rfl ?_
    show Rt (Big.cl (drop_Visible_1 n [ev B1 b1 b2 s k C1 c1 c2, .pointer (some ⟨bb, 0, none⟩)] w') _) _
    refine Rt.cBo (p := x.seq ≤ q) (w0 := w') ?_ fun b w1 hb1 k1 => ?_
    · rw [drop_Visible_1_eq]
      refine Rt.fin (Rt.al fun w1 l1 k1 s1 => ?_)
      have hb1 := (hb.kp hk).kp k1
      (repeat (first | (with_reducible (first | refine Rt.fin ?_ | refine Rt.tL ?_ | refine Rt.tI ?_ | refine Rt.tB ?_ | refine Rt.tS ?_ | refine Rt.tP ?_ | refine Rt.tD ?_ | refine Rt.tM ?_ | refine Rt.tC ?_ | refine Rt.tN ?_ | refine Rt.tA ?_ | refine Rt.tG ?_ | refine Rt.tF ?_ | refine Rt.os ?_ | refine Rt.clS ?_ | refine Rt.jmN ?_ | refine Rt.jbN ?_ | refine Rt.jbE ?_)) | ((with_reducible (first | apply Rt.ld0 | apply Rt.ld1 | apply Rt.ld2 | apply Rt.ld3 | apply Rt.ld4 | apply Rt.ld5)); first | assumption | exact Lc.kp (by assumption) (by assumption)) | ((with_reducible apply Rt.ol); first | assumption | exact cell_kp (by assumption) (by assumption)) | ((with_reducible apply Rt.ckR); focus ((repeat (first | (with_reducible (first | refine Rt.fin ?_ | refine Rt.tL ?_ | refine Rt.tI ?_ | refine Rt.tB ?_ | refine Rt.tS ?_ | refine Rt.tP ?_ | refine Rt.tD ?_ | refine Rt.tM ?_ | refine Rt.tC ?_ | refine Rt.tN ?_ | refine Rt.tA ?_ | refine Rt.tG ?_ | refine Rt.tF ?_ | refine Rt.os ?_ | refine Rt.clS ?_ | refine Rt.jmN ?_ | refine Rt.jbN ?_ | refine Rt.jbE ?_)) | ((with_reducible (first | apply Rt.ld0 | apply Rt.ld1 | apply Rt.ld2 | apply Rt.ld3 | apply Rt.ld4 | apply Rt.ld5)); first | assumption | exact Lc.kp (by assumption) (by assumption)) | ((with_reducible apply Rt.ol); first | assumption | exact cell_kp (by assumption) (by assumption)))); exact Rt.some' rfl))))
      exact Rt.endB (by rw [decide_eq_true_eq, hsq]) k1
    have k1 := hk.tr k1
    cases b with
    | true => exact Rt.cT rfl (Rt.some' ⟨k1, .inr ⟨rfl, i, x, rfl, ex, hb1.1 rfl, he⟩⟩)
    | false =>
      refine Rt.cF rfl ?_
      rw [i64_in _ (by omega), show ((i : Int) + 1) = ((i + 1 : Nat) : Int) by omega]
      refine ih (i + 1) j w1 (by omega) (by omega) k1 fun z hz => ?_
      rw [take_succ_at ex, List.mem_append] at hz
      rcases hz with hz | hz
      · exact he z hz
      · rw [List.mem_singleton] at hz; subst hz; intro h; simpa using hb1.2 h
theorem find_at {γ : Type} {p : γ → Bool} {x : γ} : ∀ {l : List γ} {i : Nat}, l[i]? = some x → p x = true → (∀ y ∈ l.take i, ¬ p y = true) → l.find? p = some x
  | [], i, h, _, _ => by simp at h
  | y :: l, 0, h, hp, _ => by
    simp at h; subst h; rw [List.find?_cons_of_pos hp]
  | y :: l, i + 1, h, hp, hn => by
    rw [List.find?_cons_of_neg (hn y (by simp))]
    exact find_at (by simpa using h) hp fun z hz => hn z (by rw [List.take_succ_cons]; exact List.mem_cons_of_mem _ hz)
theorem Find_spec {q : Int} {bb : Nat} (hs : Ev enEl w A l c xs) (hl : l < 2 ^ 62) (hn : l < n) (hb : Lc w bb [.int .u64 q]) : Rt (api_Entry n [.slice A l c, .func (.func 56) #[] #[.pointer (some ⟨bb, 0, none⟩)]] w) fun r => ∃ i w', r = ([.int .i64 i], w') ∧ Kp w w' ∧
    (i = -1 ∧ xs.find? (fun x => decide (x.seq ≤ q)) = none ∨ ∃ (k : Nat) (x : En), i = k ∧ xs[k]? = some x ∧ xs.find? (fun x => decide (x.seq ≤ q)) = some x) := by
  rw [api_Entry_eq]
  refine Rt.fin (Rt.jb (Rt.mono (Find_l0 (n := n) hs hl hb l 0 n w (by omega) (by omega) (Kp.rfl' w) (by simp)) ?_))
  rintro ⟨ex, vs, w1⟩ ⟨k1, ⟨h3, h4, h5⟩ | ⟨h3, i, x, h4, h5, h6, h7⟩⟩
  · dsimp only at h3 h4 k1
    subst h3 h4
    refine .inl ⟨.inr rfl, ?_⟩
    (repeat (first | (with_reducible (first | refine Rt.fin ?_ | refine Rt.tL ?_ | refine Rt.tI ?_ | refine Rt.tB ?_ | refine Rt.tS ?_ | refine Rt.tP ?_ | refine Rt.tD ?_ | refine Rt.tM ?_ | refine Rt.tC ?_ | refine Rt.tN ?_ | refine Rt.tA ?_ | refine Rt.tG ?_ | refine Rt.tF ?_ | refine Rt.os ?_ | refine Rt.clS ?_ | refine Rt.jmN ?_ | refine Rt.jbN ?_ | refine Rt.jbE ?_)) | ((with_reducible (first | apply Rt.ld0 | apply Rt.ld1 | apply Rt.ld2 | apply Rt.ld3 | apply Rt.ld4 | apply Rt.ld5)); first | assumption | exact Lc.kp (by assumption) (by assumption)) | ((with_reducible apply Rt.ol); first | assumption | exact cell_kp (by assumption) (by assumption)) | ((with_reducible apply Rt.ckR); focus ((repeat (first | (with_reducible (first | refine Rt.fin ?_ | refine Rt.tL ?_ | refine Rt.tI ?_ | refine Rt.tB ?_ | refine Rt.tS ?_ | refine Rt.tP ?_ | refine Rt.tD ?_ | refine Rt.tM ?_ | refine Rt.tC ?_ | refine Rt.tN ?_ | refine Rt.tA ?_ | refine Rt.tG ?_ | refine Rt.tF ?_ | refine Rt.os ?_ | refine Rt.clS ?_ | refine Rt.jmN ?_ | refine Rt.jbN ?_ | refine Rt.jbE ?_)) | ((with_reducible (first | apply Rt.ld0 | apply Rt.ld1 | apply Rt.ld2 | apply Rt.ld3 | apply Rt.ld4 | apply Rt.ld5)); first | assumption | exact Lc.kp (by assumption) (by assumption)) | ((with_reducible apply Rt.ol); first | assumption | exact cell_kp (by assumption) (by assumption)))); exact Rt.some' rfl))))
    exact Rt.some' ⟨rfl, -1, w1, rfl, k1, .inl ⟨rfl, by rw [List.find?_eq_none]; intro z hz; simpa using h5 z hz⟩⟩
  · dsimp only at h3 h4 k1
    subst h3 h4
    exact .inr ⟨rfl, rfl, i, w1, rfl, k1, .inr ⟨i, x, rfl, h5, find_at h5 (by simpa using h6) fun y hy => by simpa using h7 y hy⟩⟩
end
end Go.Proofs.Ytoilmnplocfipaa.Dr
