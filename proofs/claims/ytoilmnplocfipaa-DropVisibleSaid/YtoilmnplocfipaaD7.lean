/- Drop: Visible of the document's own text. -/
import Derived.Test.YtoilmnplocfipaaD6
import Derived.Test.YtoilmnplocfipaaDV
namespace Go.Proofs.Ytoilmnplocfipaa.Dr
open Go Big Go.RowKit Go.IntWalk Ik
set_option linter.unusedVariables false
set_option linter.unusedSimpArgs false
theorem grp_in {r : List En} {x : En} (hx : r[0]? = some x) {k : Nat} (hk : k < grp r) : ∃ y, r[k]? = some y ∧ y.key = x.key := by
  cases r with
  | nil => simp at hx
  | cons z l =>
    simp at hx; subst hx
    have h := grp_le (z :: l)
    have hy : (z :: l)[k]? = some ((z :: l)[k]'(by omega)) := List.getElem?_eq_getElem (by omega)
    refine ⟨_, hy, ?_⟩
    have hm : (z :: l)[k]'(by omega) ∈ (z :: l).take (grp (z :: l)) := by
      apply List.mem_of_getElem? (i := k)
      rw [List.getElem?_take, if_pos hk]; exact hy
    rw [(take_grp z l).1] at hm
    rcases List.mem_cons.1 hm with e | hm
    · rw [e]
    · exact same_key _ hm
theorem grp_out {r : List En} {x y : En} (hx : r[0]? = some x) (hy : r[grp r]? = some y) : y.key ≠ x.key := by
  cases r with
  | nil => simp at hx
  | cons z l =>
    simp at hx; subst hx
    have h := List.getElem?_drop (xs := z :: l) (i := grp (z :: l)) (j := 0)
    rw [Nat.add_zero, hy, (take_grp z l).2] at h
    have := List.head?_dropWhile_not (fun y => decide (y.key = z.key)) l
    rw [rest] at h
    cases hr : l.dropWhile (fun y => decide (y.key = z.key)) with
    | nil => rw [hr] at h; simp at h
    | cons a t =>
      rw [hr] at h this
      simp at h; subst h
      simpa using this
theorem seenAt_none {q : Int} {g : List En} (h : ∀ x ∈ g, ¬ x.seq ≤ q) : seenAt q g = [] := by
  unfold seenAt
  rw [List.find?_eq_none.2 fun x hx => by simpa using h x hx]
theorem seenAt_add {q : Int} {g : List En} {y : En} : seenAt q (g ++ [y]) = if (∃ x ∈ g, x.seq ≤ q) ∨ ¬ y.seq ≤ q then seenAt q g else if y.kind = 1 then [(y.key, y.val)] else [] := by
  by_cases h : ∃ x ∈ g, x.seq ≤ q
  · rw [if_pos (.inl h)]
    unfold seenAt
    rw [List.find?_append]
    obtain ⟨x, hx, hq⟩ := h
    cases hf : g.find? fun x => decide (x.seq ≤ q) with
    | some z => rfl
    | none => rw [List.find?_eq_none] at hf; exact absurd hq (by simpa using hf x hx)
  · have hn : ∀ x ∈ g, ¬ x.seq ≤ q := fun x hx hq => h ⟨x, hx, hq⟩
    by_cases hy : y.seq ≤ q
    · rw [if_neg (by rintro (h' | h'); exact h h'; exact h' hy)]
      unfold seenAt
      rw [List.find?_append, List.find?_eq_none.2 fun x hx => by simpa using hn x hx, List.find?_cons_of_pos (by simpa using hy)]; rfl
    · rw [if_pos (.inr hy), seenAt_none hn]
      apply seenAt_none
      intro x hx
      rcases List.mem_append.1 hx with hx | hx
      · exact hn x hx
      · rw [List.mem_singleton] at hx; subst hx; exact hy
section
variable {α : Type} {Q : α → Prop} {n base : Nat} {w w0 w' : World} {A B C D : Option Addr} {l c m d a1 a2 b1 b2 : Nat} {s k s' k' : Int} {x y : En} {xs ys zs : List En} {ss : List Int} {v : Value} {ps qs : List Pr}
theorem Rt.cEn {x : Option (List Value × World)} {e : En} (h : Rt x (REn e w0)) {f : List Value → World → Option α} (hf : ∀ A c B d w1, Own .u8 5 w1 w0.heap.size (.slice A e.key.length c) e.key → Own .u8 5 w1 w0.heap.size (.slice B e.val.length d) e.val → (∀ j, On (.slice A e.key.length c) j → ¬ On (.slice B e.val.length d) j) → Kp w0 w1 →
    Rt (f [ev A e.key.length c e.seq e.kind B e.val.length d] w1) Q) : Rt (Big.cl x f) Q := by
  obtain ⟨_, rfl, A, c, B, d, w1, rfl, o1, o2, h3, k1⟩ := h
  exact hf A c B d w1 o1 o2 h3 k1
theorem RVisible_l1 {q : Int} {i : Nat} (hx : Ev enEl w0 A l c xs) (hl : l ≤ 2 ^ 30) (hil : i < l) (hL : ∀ z ∈ xs, z.key.length ≤ 2 ^ 38 ∧ z.val.length ≤ 2 ^ 38) (hps : ps.length + 1 ≤ 2 ^ 34) : ∀ (f k j : Nat) (b : Bool) (D : Option Addr) (c8 : Nat) (w' : World), k + f = grp (xs.drop i) → f < j → Kp w0 w' →
    (b = true ↔ ∃ x ∈ (xs.drop i).take k, x.seq ≤ q) →
    OwnE prEl 88 w' w0.heap.size (.slice D (ps ++ seenAt q ((xs.drop i).take k)).length c8) (ps ++ seenAt q ((xs.drop i).take k)) →
    Rt (butteryref9_Visible.l1 n j A l c q D (ps ++ seenAt q ((xs.drop i).take k)).length c8 (i : Int) ((i + k : Nat) : Int) b w') fun r => r.ex = .exit 2 ∧ ∃ D c8, r.vals = [.slice A l c, .int .u64 q, .slice D (ps ++ seenAt q ((xs.drop i).take (grp (xs.drop i)))).length c8, .int .i64 ((i + grp (xs.drop i) : Nat) : Int)] ∧
      OwnE prEl 88 r.w w0.heap.size (.slice D (ps ++ seenAt q ((xs.drop i).take (grp (xs.drop i)))).length c8) (ps ++ seenAt q ((xs.drop i).take (grp (xs.drop i)))) ∧ Kp w0 r.w := by
  obtain ⟨t, z, hT⟩ := slP
  have hxl := hx.len
  obtain ⟨x, ex⟩ : ∃ x, xs[i]? = some x := ⟨_, List.getElem?_eq_getElem (by omega)⟩
  have ex0 : (xs.drop i)[0]? = some x := by rw [List.getElem?_drop, Nat.add_zero, ex]
  have hgl := grp_le (xs.drop i)
  rw [List.length_drop] at hgl
  have hgl : i + grp (xs.drop i) ≤ xs.length := by omega
  intro f
  induction f with
  | zero =>
    intro k j b D c8 w' hk hj hkp hb ho
    have hk1 : i + k ≤ l := by omega
    obtain ⟨j, rfl⟩ : ∃ j', j = j' + 1 := ⟨j - 1, by omega⟩
    rw [Nat.add_zero] at hk
    subst hk
    have hkd := hkp.dr
    rw [butteryref9_Visible.l1_succ]
    refine Rt.cD (fun h => ?_) fun h => Rt.some' ⟨rfl, D, c8, rfl, ho.dr, hkd⟩
    refine Rt.ixN (hx.kp hkd).sl (by omega) (by omega) fun y a B1 b1 b2 s k C1 c1 c2 ey hv g0 g1 g2 g3 => ?_
    rw [Int.toNat_natCast] at ey
    (repeat (first | (with_reducible (first | refine Rt.fin ?_ | refine Rt.tL ?_ | refine Rt.tI ?_ | refine Rt.tB ?_ | refine Rt.tS ?_ | refine Rt.tP ?_ | refine Rt.tD ?_ | refine Rt.tM ?_ | refine Rt.tC ?_ | refine Rt.tN ?_ | refine Rt.tA ?_ | refine Rt.tG ?_ | refine Rt.tF ?_ | refine Rt.os ?_ | refine Rt.clS ?_ | refine Rt.jmN ?_ | refine Rt.jbN ?_ | refine Rt.jbE ?_)) | ((with_reducible (first | apply Rt.ld0 | apply Rt.ld1 | apply Rt.ld2 | apply Rt.ld3 | apply Rt.ld4 | apply Rt.ld5)); first | assumption | exact Lc.kp (by assumption) (by assumption)) | ((with_reducible apply Rt.ol); first | assumption | exact cell_kp (by assumption) (by assumption)) | ((with_reducible apply Rt.ckR); focus ((repeat (first | (with_reducible (first | refine Rt.fin ?_ | refine Rt.tL ?_ | refine Rt.tI ?_ | refine Rt.tB ?_ | refine Rt.tS ?_ | refine Rt.tP ?_ | refine Rt.tD ?_ | refine Rt.tM ?_ | refine Rt.tC ?_ | refine Rt.tN ?_ | refine Rt.tA ?_ | refine Rt.tG ?_ | refine Rt.tF ?_ | refine Rt.os ?_ | refine Rt.clS ?_ | refine Rt.jmN ?_ | refine Rt.jbN ?_ | refine Rt.jbE ?_)) | ((with_reducible (first | apply Rt.ld0 | apply Rt.ld1 | apply Rt.ld2 | apply Rt.ld3 | apply Rt.ld4 | apply Rt.ld5)); first | assumption | exact Lc.kp (by assumption) (by assumption)) | ((with_reducible apply Rt.ol); first | assumption | exact cell_kp (by assumption) (by assumption)))); exact Rt.some' rfl))))
    refine Rt.str hv.key (Rt.ixN (hx.kp hkd).sl (by omega) (by omega) fun x' a B1 b1 b2 s k C1 c1 c2 ex' hv' g0' g1' g2' g3' => ?_)
    rw [Int.toNat_natCast, ex] at ex'
    injection ex' with ex'
    subst ex'
    (repeat (first | (with_reducible (first | refine Rt.fin ?_ | refine Rt.tL ?_ | refine Rt.tI ?_ | refine Rt.tB ?_ | refine Rt.tS ?_ | refine Rt.tP ?_ | refine Rt.tD ?_ | refine Rt.tM ?_ | refine Rt.tC ?_ | refine Rt.tN ?_ | refine Rt.tA ?_ | refine Rt.tG ?_ | refine Rt.tF ?_ | refine Rt.os ?_ | refine Rt.clS ?_ | refine Rt.jmN ?_ | refine Rt.jbN ?_ | refine Rt.jbE ?_)) | ((with_reducible (first | apply Rt.ld0 | apply Rt.ld1 | apply Rt.ld2 | apply Rt.ld3 | apply Rt.ld4 | apply Rt.ld5)); first | assumption | exact Lc.kp (by assumption) (by assumption)) | ((with_reducible apply Rt.ol); first | assumption | exact cell_kp (by assumption) (by assumption)) | ((with_reducible apply Rt.ckR); focus ((repeat (first | (with_reducible (first | refine Rt.fin ?_ | refine Rt.tL ?_ | refine Rt.tI ?_ | refine Rt.tB ?_ | refine Rt.tS ?_ | refine Rt.tP ?_ | refine Rt.tD ?_ | refine Rt.tM ?_ | refine Rt.tC ?_ | refine Rt.tN ?_ | refine Rt.tA ?_ | refine Rt.tG ?_ | refine Rt.tF ?_ | refine Rt.os ?_ | refine Rt.clS ?_ | refine Rt.jmN ?_ | refine Rt.jbN ?_ | refine Rt.jbE ?_)) | ((with_reducible (first | apply Rt.ld0 | apply Rt.ld1 | apply Rt.ld2 | apply Rt.ld3 | apply Rt.ld4 | apply Rt.ld5)); first | assumption | exact Lc.kp (by assumption) (by assumption)) | ((with_reducible apply Rt.ol); first | assumption | exact cell_kp (by assumption) (by assumption)))); exact Rt.some' rfl))))
    refine Rt.str hv'.key (Rt.cS hv.key.rng hv'.key.rng (fun h => ?_) fun h => Rt.some' ⟨rfl, D, c8, rfl, ho.dr, hkd⟩)
    exact absurd h (grp_out ex0 (by rw [List.getElem?_drop]; exact ey))
  | succ f ih =>
    intro k j b D c8 w' hk hj hkp hb ho
    have hk1 : i + k ≤ l := by omega
    obtain ⟨j, rfl⟩ : ∃ j', j = j' + 1 := ⟨j - 1, by omega⟩
    obtain ⟨y, ey, hyk⟩ := grp_in ex0 (k := k) (by omega)
    have ey' : xs[i + k]? = some y := by rw [← ey, List.getElem?_drop]
    have hmem := hL y (List.mem_of_getElem? ey')
    have hkd := hkp.dr
    have hod := ho.dr
    have etk : (xs.drop i).take (k + 1) = (xs.drop i).take k ++ [y] := take_succ_at ey
    have hsl := seenAt_len (q := q) (g := (xs.drop i).take k)
    rw [butteryref9_Visible.l1_succ]
    refine Rt.cDT (by omega) (Rt.ixN (hx.kp hkd).sl (by omega) (by omega) fun y1 a B1 b1 b2 s k1 C1 c1 c2 e1 hv g0 g1 g2 g3 => ?_)
    rw [Int.toNat_natCast, ey'] at e1
    injection e1 with e1
    subst e1
    (repeat (first | (with_reducible (first | refine Rt.fin ?_ | refine Rt.tL ?_ | refine Rt.tI ?_ | refine Rt.tB ?_ | refine Rt.tS ?_ | refine Rt.tP ?_ | refine Rt.tD ?_ | refine Rt.tM ?_ | refine Rt.tC ?_ | refine Rt.tN ?_ | refine Rt.tA ?_ | refine Rt.tG ?_ | refine Rt.tF ?_ | refine Rt.os ?_ | refine Rt.clS ?_ | refine Rt.jmN ?_ | refine Rt.jbN ?_ | refine Rt.jbE ?_)) | ((with_reducible (first | apply Rt.ld0 | apply Rt.ld1 | apply Rt.ld2 | apply Rt.ld3 | apply Rt.ld4 | apply Rt.ld5)); first | assumption | exact Lc.kp (by assumption) (by assumption)) | ((with_reducible apply Rt.ol); first | assumption | exact cell_kp (by assumption) (by assumption)) | ((with_reducible apply Rt.ckR); focus ((repeat (first | (with_reducible (first | refine Rt.fin ?_ | refine Rt.tL ?_ | refine Rt.tI ?_ | refine Rt.tB ?_ | refine Rt.tS ?_ | refine Rt.tP ?_ | refine Rt.tD ?_ | refine Rt.tM ?_ | refine Rt.tC ?_ | refine Rt.tN ?_ | refine Rt.tA ?_ | refine Rt.tG ?_ | refine Rt.tF ?_ | refine Rt.os ?_ | refine Rt.clS ?_ | refine Rt.jmN ?_ | refine Rt.jbN ?_ | refine Rt.jbE ?_)) | ((with_reducible (first | apply Rt.ld0 | apply Rt.ld1 | apply Rt.ld2 | apply Rt.ld3 | apply Rt.ld4 | apply Rt.ld5)); first | assumption | exact Lc.kp (by assumption) (by assumption)) | ((with_reducible apply Rt.ol); first | assumption | exact cell_kp (by assumption) (by assumption)))); exact Rt.some' rfl))))
    refine Rt.str hv.key (Rt.ixN (hx.kp hkd).sl (by omega) (by omega) fun x' a B1 b1 b2 s k1 C1 c1 c2 ex' hv' g0' g1' g2' g3' => ?_)
    rw [Int.toNat_natCast, ex] at ex'
    injection ex' with ex'
    subst ex'
    (repeat (first | (with_reducible (first | refine Rt.fin ?_ | refine Rt.tL ?_ | refine Rt.tI ?_ | refine Rt.tB ?_ | refine Rt.tS ?_ | refine Rt.tP ?_ | refine Rt.tD ?_ | refine Rt.tM ?_ | refine Rt.tC ?_ | refine Rt.tN ?_ | refine Rt.tA ?_ | refine Rt.tG ?_ | refine Rt.tF ?_ | refine Rt.os ?_ | refine Rt.clS ?_ | refine Rt.jmN ?_ | refine Rt.jbN ?_ | refine Rt.jbE ?_)) | ((with_reducible (first | apply Rt.ld0 | apply Rt.ld1 | apply Rt.ld2 | apply Rt.ld3 | apply Rt.ld4 | apply Rt.ld5)); first | assumption | exact Lc.kp (by assumption) (by assumption)) | ((with_reducible apply Rt.ol); first | assumption | exact cell_kp (by assumption) (by assumption)) | ((with_reducible apply Rt.ckR); focus ((repeat (first | (with_reducible (first | refine Rt.fin ?_ | refine Rt.tL ?_ | refine Rt.tI ?_ | refine Rt.tB ?_ | refine Rt.tS ?_ | refine Rt.tP ?_ | refine Rt.tD ?_ | refine Rt.tM ?_ | refine Rt.tC ?_ | refine Rt.tN ?_ | refine Rt.tA ?_ | refine Rt.tG ?_ | refine Rt.tF ?_ | refine Rt.os ?_ | refine Rt.clS ?_ | refine Rt.jmN ?_ | refine Rt.jbN ?_ | refine Rt.jbE ?_)) | ((with_reducible (first | apply Rt.ld0 | apply Rt.ld1 | apply Rt.ld2 | apply Rt.ld3 | apply Rt.ld4 | apply Rt.ld5)); first | assumption | exact Lc.kp (by assumption) (by assumption)) | ((with_reducible apply Rt.ol); first | assumption | exact cell_kp (by assumption) (by assumption)))); exact Rt.some' rfl))))
    refine Rt.str hv'.key (Rt.cS hv.key.rng hv'.key.rng (fun h => ?_) fun h => absurd hyk h)
    refine Rt.jm (Rt.mono (Q' := fun r => r.ex = .norm ∧ ∃ (b' : Bool) (D' : Option Addr) (c9 : Nat), r.vals = [.slice A l c, .int .u64 q, .slice D' (ps ++ seenAt q ((xs.drop i).take (k + 1))).length c9, .int .i64 (i : Int), .int .i64 ((i + k : Nat) : Int), .bool b'] ∧ Kp w0 r.w ∧ (b' = true ↔ ∃ x ∈ (xs.drop i).take (k + 1), x.seq ≤ q) ∧
        OwnE prEl 88 r.w w0.heap.size (.slice D' (ps ++ seenAt q ((xs.drop i).take (k + 1))).length c9) (ps ++ seenAt q ((xs.drop i).take (k + 1)))) ?_ ?_)
    · cases b with
      | true =>
        have hex := hb.1 rfl
        have e2 : seenAt q ((xs.drop i).take (k + 1)) = seenAt q ((xs.drop i).take k) := by rw [etk, seenAt_add, if_pos (.inl hex)]
        refine Rt.cF rfl (Rt.some' ⟨rfl, true, D, c8, by rw [e2], hkd, ?_, by rw [e2]; exact hod⟩)
        rw [etk]
        obtain ⟨z, hz, hq⟩ := hex
        simp only [true_iff]
        exact ⟨z, List.mem_append_left _ hz, hq⟩
      | false =>
        have hnex : ¬ ∃ x ∈ (xs.drop i).take k, x.seq ≤ q := fun h => by simpa using hb.2 h
        have e0 : seenAt q ((xs.drop i).take k) = [] := seenAt_none fun x hx hq => hnex ⟨x, hx, hq⟩
        refine Rt.cT rfl (Rt.ixN (hx.kp hkd).sl (by omega) (by omega) fun y1 a B1 b1 b2 s k1 C1 c1 c2 e1 hv g0 g1 g2 g3 => ?_)
        rw [Int.toNat_natCast, ey'] at e1
        injection e1 with e1
        subst e1
        have hsq := hv.seq
        (repeat (first | (with_reducible (first | refine Rt.fin ?_ | refine Rt.tL ?_ | refine Rt.tI ?_ | refine Rt.tB ?_ | refine Rt.tS ?_ | refine Rt.tP ?_ | refine Rt.tD ?_ | refine Rt.tM ?_ | refine Rt.tC ?_ | refine Rt.tN ?_ | refine Rt.tA ?_ | refine Rt.tG ?_ | refine Rt.tF ?_ | refine Rt.os ?_ | refine Rt.clS ?_ | refine Rt.jmN ?_ | refine Rt.jbN ?_ | refine Rt.jbE ?_)) | ((with_reducible (first | apply Rt.ld0 | apply Rt.ld1 | apply Rt.ld2 | apply Rt.ld3 | apply Rt.ld4 | apply Rt.ld5)); first | assumption | exact Lc.kp (by assumption) (by assumption)) | ((with_reducible apply Rt.ol); first | assumption | exact cell_kp (by assumption) (by assumption)) | ((with_reducible apply Rt.ckR); focus ((repeat (first | (with_reducible (first | refine Rt.fin ?_ | refine Rt.tL ?_ | refine Rt.tI ?_ | refine Rt.tB ?_ | refine Rt.tS ?_ | refine Rt.tP ?_ | refine Rt.tD ?_ | refine Rt.tM ?_ | refine Rt.tC ?_ | refine Rt.tN ?_ | refine Rt.tA ?_ | refine Rt.tG ?_ | refine Rt.tF ?_ | refine Rt.os ?_ | refine Rt.clS ?_ | refine Rt.jmN ?_ | refine Rt.jbN ?_ | refine Rt.jbE ?_)) | ((with_reducible (first | apply Rt.ld0 | apply Rt.ld1 | apply Rt.ld2 | apply Rt.ld3 | apply Rt.ld4 | apply Rt.ld5)); first | assumption | exact Lc.kp (by assumption) (by assumption)) | ((with_reducible apply Rt.ol); first | assumption | exact cell_kp (by assumption) (by assumption)))); exact Rt.some' rfl))))
        refine Rt.cD (fun hq => ?_) fun hq => ?_
        · have hyq : y.seq ≤ q := by rw [← hsq]; exact hq
          have hb' : true = true ↔ ∃ x ∈ (xs.drop i).take (k + 1), x.seq ≤ q := by
            rw [etk]; simp only [true_iff]; exact ⟨y, List.mem_append_right _ (List.mem_singleton.2 rfl), hyq⟩
          have e2 : seenAt q ((xs.drop i).take (k + 1)) = if y.kind = 1 then [(y.key, y.val)] else [] := by rw [etk, seenAt_add, if_neg (by rintro (h | h); exact hnex h; exact h hyq)]
          refine Rt.ixN (hx.kp hkd).sl (by omega) (by omega) fun y1 a B1 b1 b2 s k1 C1 c1 c2 e1 hv g0 g1 g2 g3 => ?_
          rw [Int.toNat_natCast, ey'] at e1
          injection e1 with e1
          subst e1
          have hkd' := hv.kind
          (repeat (first | (with_reducible (first | refine Rt.fin ?_ | refine Rt.tL ?_ | refine Rt.tI ?_ | refine Rt.tB ?_ | refine Rt.tS ?_ | refine Rt.tP ?_ | refine Rt.tD ?_ | refine Rt.tM ?_ | refine Rt.tC ?_ | refine Rt.tN ?_ | refine Rt.tA ?_ | refine Rt.tG ?_ | refine Rt.tF ?_ | refine Rt.os ?_ | refine Rt.clS ?_ | refine Rt.jmN ?_ | refine Rt.jbN ?_ | refine Rt.jbE ?_)) | ((with_reducible (first | apply Rt.ld0 | apply Rt.ld1 | apply Rt.ld2 | apply Rt.ld3 | apply Rt.ld4 | apply Rt.ld5)); first | assumption | exact Lc.kp (by assumption) (by assumption)) | ((with_reducible apply Rt.ol); first | assumption | exact cell_kp (by assumption) (by assumption)) | ((with_reducible apply Rt.ckR); focus ((repeat (first | (with_reducible (first | refine Rt.fin ?_ | refine Rt.tL ?_ | refine Rt.tI ?_ | refine Rt.tB ?_ | refine Rt.tS ?_ | refine Rt.tP ?_ | refine Rt.tD ?_ | refine Rt.tM ?_ | refine Rt.tC ?_ | refine Rt.tN ?_ | refine Rt.tA ?_ | refine Rt.tG ?_ | refine Rt.tF ?_ | refine Rt.os ?_ | refine Rt.clS ?_ | refine Rt.jmN ?_ | refine Rt.jbN ?_ | refine Rt.jbE ?_)) | ((with_reducible (first | apply Rt.ld0 | apply Rt.ld1 | apply Rt.ld2 | apply Rt.ld3 | apply Rt.ld4 | apply Rt.ld5)); first | assumption | exact Lc.kp (by assumption) (by assumption)) | ((with_reducible apply Rt.ol); first | assumption | exact cell_kp (by assumption) (by assumption)))); exact Rt.some' rfl))))
          refine Rt.cQ (fun hkk => ?_) fun hkk => ?_
          · have e3 : seenAt q ((xs.drop i).take (k + 1)) = [(y.key, y.val)] := by rw [e2, if_pos (hkd'.symm.trans hkk)]
            refine Rt.ixN (hx.kp hkd).sl (by omega) (by omega) fun y1 a B1 b1 b2 s k1 C1 c1 c2 e1 hv g0 g1 g2 g3 => ?_
            rw [Int.toNat_natCast, ey'] at e1
            injection e1 with e1
            subst e1
            have h1 := hv.key.len
            have h2 := hv.val.len
            (repeat (first | (with_reducible (first | refine Rt.fin ?_ | refine Rt.tL ?_ | refine Rt.tI ?_ | refine Rt.tB ?_ | refine Rt.tS ?_ | refine Rt.tP ?_ | refine Rt.tD ?_ | refine Rt.tM ?_ | refine Rt.tC ?_ | refine Rt.tN ?_ | refine Rt.tA ?_ | refine Rt.tG ?_ | refine Rt.tF ?_ | refine Rt.os ?_ | refine Rt.clS ?_ | refine Rt.jmN ?_ | refine Rt.jbN ?_ | refine Rt.jbE ?_)) | ((with_reducible (first | apply Rt.ld0 | apply Rt.ld1 | apply Rt.ld2 | apply Rt.ld3 | apply Rt.ld4 | apply Rt.ld5)); first | assumption | exact Lc.kp (by assumption) (by assumption)) | ((with_reducible apply Rt.ol); first | assumption | exact cell_kp (by assumption) (by assumption)) | ((with_reducible apply Rt.ckR); focus ((repeat (first | (with_reducible (first | refine Rt.fin ?_ | refine Rt.tL ?_ | refine Rt.tI ?_ | refine Rt.tB ?_ | refine Rt.tS ?_ | refine Rt.tP ?_ | refine Rt.tD ?_ | refine Rt.tM ?_ | refine Rt.tC ?_ | refine Rt.tN ?_ | refine Rt.tA ?_ | refine Rt.tG ?_ | refine Rt.tF ?_ | refine Rt.os ?_ | refine Rt.clS ?_ | refine Rt.jmN ?_ | refine Rt.jbN ?_ | refine Rt.jbE ?_)) | ((with_reducible (first | apply Rt.ld0 | apply Rt.ld1 | apply Rt.ld2 | apply Rt.ld3 | apply Rt.ld4 | apply Rt.ld5)); first | assumption | exact Lc.kp (by assumption) (by assumption)) | ((with_reducible apply Rt.ol); first | assumption | exact cell_kp (by assumption) (by assumption)))); exact Rt.some' rfl))))
            refine Rt.cEn (Copy_spec hv (by omega) (by omega)) fun A3 c3 B3 d3 w3 o3 p3 _ k3 => ?_
            (repeat (first | (with_reducible (first | refine Rt.fin ?_ | refine Rt.tL ?_ | refine Rt.tI ?_ | refine Rt.tB ?_ | refine Rt.tS ?_ | refine Rt.tP ?_ | refine Rt.tD ?_ | refine Rt.tM ?_ | refine Rt.tC ?_ | refine Rt.tN ?_ | refine Rt.tA ?_ | refine Rt.tG ?_ | refine Rt.tF ?_ | refine Rt.os ?_ | refine Rt.clS ?_ | refine Rt.jmN ?_ | refine Rt.jbN ?_ | refine Rt.jbE ?_)) | ((with_reducible (first | apply Rt.ld0 | apply Rt.ld1 | apply Rt.ld2 | apply Rt.ld3 | apply Rt.ld4 | apply Rt.ld5)); first | assumption | exact Lc.kp (by assumption) (by assumption)) | ((with_reducible apply Rt.ol); first | assumption | exact cell_kp (by assumption) (by assumption)) | ((with_reducible apply Rt.ckR); focus ((repeat (first | (with_reducible (first | refine Rt.fin ?_ | refine Rt.tL ?_ | refine Rt.tI ?_ | refine Rt.tB ?_ | refine Rt.tS ?_ | refine Rt.tP ?_ | refine Rt.tD ?_ | refine Rt.tM ?_ | refine Rt.tC ?_ | refine Rt.tN ?_ | refine Rt.tA ?_ | refine Rt.tG ?_ | refine Rt.tF ?_ | refine Rt.os ?_ | refine Rt.clS ?_ | refine Rt.jmN ?_ | refine Rt.jbN ?_ | refine Rt.jbE ?_)) | ((with_reducible (first | apply Rt.ld0 | apply Rt.ld1 | apply Rt.ld2 | apply Rt.ld3 | apply Rt.ld4 | apply Rt.ld5)); first | assumption | exact Lc.kp (by assumption) (by assumption)) | ((with_reducible apply Rt.ol); first | assumption | exact cell_kp (by assumption) (by assumption)))); exact Rt.some' rfl))))
            refine Rt.al4 fun w4 l4 k4 s4 => ?_
            (repeat (first | (with_reducible (first | refine Rt.fin ?_ | refine Rt.tL ?_ | refine Rt.tI ?_ | refine Rt.tB ?_ | refine Rt.tS ?_ | refine Rt.tP ?_ | refine Rt.tD ?_ | refine Rt.tM ?_ | refine Rt.tC ?_ | refine Rt.tN ?_ | refine Rt.tA ?_ | refine Rt.tG ?_ | refine Rt.tF ?_ | refine Rt.os ?_ | refine Rt.clS ?_ | refine Rt.jmN ?_ | refine Rt.jbN ?_ | refine Rt.jbE ?_)) | ((with_reducible (first | apply Rt.ld0 | apply Rt.ld1 | apply Rt.ld2 | apply Rt.ld3 | apply Rt.ld4 | apply Rt.ld5)); first | assumption | exact Lc.kp (by assumption) (by assumption)) | ((with_reducible apply Rt.ol); first | assumption | exact cell_kp (by assumption) (by assumption)) | ((with_reducible apply Rt.ckR); focus ((repeat (first | (with_reducible (first | refine Rt.fin ?_ | refine Rt.tL ?_ | refine Rt.tI ?_ | refine Rt.tB ?_ | refine Rt.tS ?_ | refine Rt.tP ?_ | refine Rt.tD ?_ | refine Rt.tM ?_ | refine Rt.tC ?_ | refine Rt.tN ?_ | refine Rt.tA ?_ | refine Rt.tG ?_ | refine Rt.tF ?_ | refine Rt.os ?_ | refine Rt.clS ?_ | refine Rt.jmN ?_ | refine Rt.jbN ?_ | refine Rt.jbE ?_)) | ((with_reducible (first | apply Rt.ld0 | apply Rt.ld1 | apply Rt.ld2 | apply Rt.ld3 | apply Rt.ld4 | apply Rt.ld5)); first | assumption | exact Lc.kp (by assumption) (by assumption)) | ((with_reducible apply Rt.ol); first | assumption | exact cell_kp (by assumption) (by assumption)))); exact Rt.some' rfl))))
            have k34 := k3.tr k4
            have hd : w'.drew.heap.size = w'.heap.size := rfl
            rw [e0, List.append_nil] at hod ⊢
            have ho4 := hod.kp k34
            refine Rt.app1f rfl hT ho4 rfl (pr_stb2 (x := (y.key, y.val)) (o3.kp k4) (p3.kp k4) hv.key.rng hv.val.rng fun jj hj => ?_) (by omega) (by have := hkd.size; have := k34.size; omega) fun A7 c9 w7 o7 g7 f7 s7 => ?_
            · have h1 := (hod.lt jj hj).2
              exact ⟨h1, h1⟩
            (repeat (first | (with_reducible (first | refine Rt.fin ?_ | refine Rt.tL ?_ | refine Rt.tI ?_ | refine Rt.tB ?_ | refine Rt.tS ?_ | refine Rt.tP ?_ | refine Rt.tD ?_ | refine Rt.tM ?_ | refine Rt.tC ?_ | refine Rt.tN ?_ | refine Rt.tA ?_ | refine Rt.tG ?_ | refine Rt.tF ?_ | refine Rt.os ?_ | refine Rt.clS ?_ | refine Rt.jmN ?_ | refine Rt.jbN ?_ | refine Rt.jbE ?_)) | ((with_reducible (first | apply Rt.ld0 | apply Rt.ld1 | apply Rt.ld2 | apply Rt.ld3 | apply Rt.ld4 | apply Rt.ld5)); first | assumption | exact Lc.kp (by assumption) (by assumption)) | ((with_reducible apply Rt.ol); first | assumption | exact cell_kp (by assumption) (by assumption)) | ((with_reducible apply Rt.ckR); focus ((repeat (first | (with_reducible (first | refine Rt.fin ?_ | refine Rt.tL ?_ | refine Rt.tI ?_ | refine Rt.tB ?_ | refine Rt.tS ?_ | refine Rt.tP ?_ | refine Rt.tD ?_ | refine Rt.tM ?_ | refine Rt.tC ?_ | refine Rt.tN ?_ | refine Rt.tA ?_ | refine Rt.tG ?_ | refine Rt.tF ?_ | refine Rt.os ?_ | refine Rt.clS ?_ | refine Rt.jmN ?_ | refine Rt.jbN ?_ | refine Rt.jbE ?_)) | ((with_reducible (first | apply Rt.ld0 | apply Rt.ld1 | apply Rt.ld2 | apply Rt.ld3 | apply Rt.ld4 | apply Rt.ld5)); first | assumption | exact Lc.kp (by assumption) (by assumption)) | ((with_reducible apply Rt.ol); first | assumption | exact cell_kp (by assumption) (by assumption)))); exact Rt.some' rfl))))
            have e4 : ps.length + 1 = (ps ++ [(y.key, y.val)]).length := by rw [List.length_append]; rfl
            rw [e4] at o7 ⊢
            rw [e3]
            exact Rt.some' ⟨rfl, true, A7, c9, rfl, (hkd.tr k34).tx g7 fun jj hj => (hod.lt jj hj).1, hb', o7⟩
          · have e3 : seenAt q ((xs.drop i).take (k + 1)) = seenAt q ((xs.drop i).take k) := by rw [e2, if_neg (fun h => hkk (hkd'.trans h)), e0]
            exact Rt.some' ⟨rfl, true, D, c8, by rw [e3], hkd, hb', by rw [e3]; exact hod⟩
        · have hyq : ¬ y.seq ≤ q := by rw [← hsq]; exact hq
          have e2 : seenAt q ((xs.drop i).take (k + 1)) = seenAt q ((xs.drop i).take k) := by rw [etk, seenAt_add, if_pos (.inr hyq)]
          refine Rt.some' ⟨rfl, false, D, c8, by rw [e2], hkd, ?_, by rw [e2]; exact hod⟩
          rw [etk]
          simp only [Bool.false_eq_true, false_iff]
          rintro ⟨z, hz, hq'⟩
          rcases List.mem_append.1 hz with hz | hz
          · exact hnex ⟨z, hz, hq'⟩
          · rw [List.mem_singleton] at hz; subst hz; exact hyq hq'
    · rintro ⟨ex, vs, w4⟩ ⟨h1, b', D', c9, h2, k4, hb', o4⟩
      dsimp only at h1 h2 k4 o4
      subst h1 h2
      refine ⟨rfl, ?_⟩
      dsimp only
      (repeat (first | (with_reducible (first | refine Rt.fin ?_ | refine Rt.tL ?_ | refine Rt.tI ?_ | refine Rt.tB ?_ | refine Rt.tS ?_ | refine Rt.tP ?_ | refine Rt.tD ?_ | refine Rt.tM ?_ | refine Rt.tC ?_ | refine Rt.tN ?_ | refine Rt.tA ?_ | refine Rt.tG ?_ | refine Rt.tF ?_ | refine Rt.os ?_ | refine Rt.clS ?_ | refine Rt.jmN ?_ | refine Rt.jbN ?_ | refine Rt.jbE ?_)) | ((with_reducible (first | apply Rt.ld0 | apply Rt.ld1 | apply Rt.ld2 | apply Rt.ld3 | apply Rt.ld4 | apply Rt.ld5)); first | assumption | exact Lc.kp (by assumption) (by assumption)) | ((with_reducible apply Rt.ol); first | assumption | exact cell_kp (by assumption) (by assumption)) | ((with_reducible apply Rt.ckR); focus ((repeat (first | (with_reducible (first | refine Rt.fin ?_ | refine Rt.tL ?_ | refine Rt.tI ?_ | refine Rt.tB ?_ | refine Rt.tS ?_ | refine Rt.tP ?_ | refine Rt.tD ?_ | refine Rt.tM ?_ | refine Rt.tC ?_ | refine Rt.tN ?_ | refine Rt.tA ?_ | refine Rt.tG ?_ | refine Rt.tF ?_ | refine Rt.os ?_ | refine Rt.clS ?_ | refine Rt.jmN ?_ | refine Rt.jbN ?_ | refine Rt.jbE ?_)) | ((with_reducible (first | apply Rt.ld0 | apply Rt.ld1 | apply Rt.ld2 | apply Rt.ld3 | apply Rt.ld4 | apply Rt.ld5)); first | assumption | exact Lc.kp (by assumption) (by assumption)) | ((with_reducible apply Rt.ol); first | assumption | exact cell_kp (by assumption) (by assumption)))); exact Rt.some' rfl))))
      rw [i64_in _ (by omega), show (((i + k : Nat) : Int) + 1) = ((i + (k + 1) : Nat) : Int) by omega]
      exact ih (k + 1) j b' D' c9 w4 (by omega) (by omega) k4 hb' o4
theorem RVisible_l0 {q : Int} (hx : Ev enEl w0 A l c xs) (hl : l ≤ 2 ^ 30) (hn : l < n) (hL : ∀ z ∈ xs, z.key.length ≤ 2 ^ 38 ∧ z.val.length ≤ 2 ^ 38) : ∀ (f i j : Nat) (ps : List Pr) (D : Option Addr) (c8 : Nat) (w' : World), l ≤ i + f → i ≤ l → f < j → Kp w0 w' → ps.length + (l - i) ≤ 2 ^ 33 →
    OwnE prEl 88 w' w0.heap.size (.slice D ps.length c8) ps →
    Rt (butteryref9_Visible.l0 n j A l c q D ps.length c8 (i : Int) w') fun r => r.ex = .exit 0 ∧ ∃ D c8, r.vals = [.slice D (ps ++ visP q (xs.drop i)).length c8] ∧ OwnE prEl 88 r.w w0.heap.size (.slice D (ps ++ visP q (xs.drop i)).length c8) (ps ++ visP q (xs.drop i)) ∧ Kp w0 r.w := by
  have hxl := hx.len
  intro f
  induction f with
  | zero =>
    intro i j ps D c8 w' hi hil hj hk hps ho
    obtain ⟨j, rfl⟩ : ∃ j', j = j' + 1 := ⟨j - 1, by omega⟩
    rw [butteryref9_Visible.l0_succ, List.drop_of_length_le (by omega), visP_nil, List.append_nil]
    exact Rt.cDF (by omega) (Rt.some' ⟨rfl, D, c8, rfl, ho, hk⟩)
  | succ f ih =>
    intro i j ps D c8 w' hi hil hj hk hps ho
    obtain ⟨j, rfl⟩ : ∃ j', j = j' + 1 := ⟨j - 1, by omega⟩
    rw [butteryref9_Visible.l0_succ]
    by_cases hlt : i < l
    · have hne : xs.drop i ≠ [] := by intro h; have := congrArg List.length h; rw [List.length_drop] at this; simp at this; omega
      have hg1 := grp_pos hne
      have hg2 := grp_le (xs.drop i)
      rw [List.length_drop] at hg2
      have h1 := RVisible_l1 (n := n) (ps := ps) (q := q) (i := i) hx hl hlt hL (by omega) (grp (xs.drop i)) 0 n false D c8 w' (by omega) (by omega) hk (by simp) (by simpa [seenAt] using ho)
      rw [show seenAt q ((xs.drop i).take 0) = [] by simp [seenAt], List.append_nil] at h1
      refine Rt.cDT (by omega) (Rt.jb (Rt.mono h1 ?_))
      rintro ⟨ex, vs, w4⟩ ⟨h1, D', c9, h2, o4, k4⟩
      dsimp only at h1 h2 k4 o4
      subst h1 h2
      refine .inl ⟨.inr rfl, ?_⟩
      (repeat (first | (with_reducible (first | refine Rt.fin ?_ | refine Rt.tL ?_ | refine Rt.tI ?_ | refine Rt.tB ?_ | refine Rt.tS ?_ | refine Rt.tP ?_ | refine Rt.tD ?_ | refine Rt.tM ?_ | refine Rt.tC ?_ | refine Rt.tN ?_ | refine Rt.tA ?_ | refine Rt.tG ?_ | refine Rt.tF ?_ | refine Rt.os ?_ | refine Rt.clS ?_ | refine Rt.jmN ?_ | refine Rt.jbN ?_ | refine Rt.jbE ?_)) | ((with_reducible (first | apply Rt.ld0 | apply Rt.ld1 | apply Rt.ld2 | apply Rt.ld3 | apply Rt.ld4 | apply Rt.ld5)); first | assumption | exact Lc.kp (by assumption) (by assumption)) | ((with_reducible apply Rt.ol); first | assumption | exact cell_kp (by assumption) (by assumption)) | ((with_reducible apply Rt.ckR); focus ((repeat (first | (with_reducible (first | refine Rt.fin ?_ | refine Rt.tL ?_ | refine Rt.tI ?_ | refine Rt.tB ?_ | refine Rt.tS ?_ | refine Rt.tP ?_ | refine Rt.tD ?_ | refine Rt.tM ?_ | refine Rt.tC ?_ | refine Rt.tN ?_ | refine Rt.tA ?_ | refine Rt.tG ?_ | refine Rt.tF ?_ | refine Rt.os ?_ | refine Rt.clS ?_ | refine Rt.jmN ?_ | refine Rt.jbN ?_ | refine Rt.jbE ?_)) | ((with_reducible (first | apply Rt.ld0 | apply Rt.ld1 | apply Rt.ld2 | apply Rt.ld3 | apply Rt.ld4 | apply Rt.ld5)); first | assumption | exact Lc.kp (by assumption) (by assumption)) | ((with_reducible apply Rt.ol); first | assumption | exact cell_kp (by assumption) (by assumption)))); exact Rt.some' rfl))))
      rw [visP_cons hne, ← List.append_assoc, List.drop_drop]
      have hsl := seenAt_len (q := q) (g := (xs.drop i).take (grp (xs.drop i)))
      exact ih (i + grp (xs.drop i)) j _ D' c9 w4 (by omega) (by omega) (by omega) k4 (by rw [List.length_append]; omega) o4
    · rw [List.drop_of_length_le (by omega), visP_nil, List.append_nil]
      exact Rt.cDF (by omega) (Rt.some' ⟨rfl, D, c8, rfl, ho, hk⟩)
theorem RVisible_spec {q : Int} (hx : Ev enEl w A l c xs) (hL : ∀ z ∈ xs, z.key.length ≤ 2 ^ 38 ∧ z.val.length ≤ 2 ^ 38) (hl : l ≤ 2 ^ 30) (hn2 : 2 ^ 50 < n) : Rt (butteryref9_Visible n [.slice A l c, .int .u64 q] w) (RPv (visR q xs) w) := by
  have hxl := hx.len
  rw [butteryref9_Visible_eq]
  refine Rt.fin (Rt.cBo (RRising_spec hx (by omega) (by omega) (fun z hz => by have := hL z hz; omega) fun z hz => by have := hL z hz; omega) fun b w2 hb k12 => ?_)
  unfold visR
  cases b with
  | false =>
    have : ¬ risingE xs := fun h => by simpa using hb.2 h
    rw [if_neg this]
    exact Rt.cT rfl (Rt.some' ⟨rfl, none, 0, w2, rfl, ⟨SlE.nil .., fun _ => ⟨rfl, rfl⟩, Nat.le_refl _, Nat.zero_le _⟩, k12⟩)
  | true =>
    rw [if_pos (hb.1 rfl)]
    have hh := RVisible_l0 (n := n) (w0 := w2) (q := q) (hx.kp k12) hl (by omega) hL l 0 n [] none 0 w2 (by omega) (by omega) (by omega) (Kp.rfl' _) (by simp; omega) (OwnE.nil _ _)
    refine Rt.cF rfl (Rt.jb (Rt.mono hh ?_))
    rintro ⟨ex, vs, w3⟩ ⟨h1, D, c8, h2, h3, k3⟩
    dsimp only at h1 h2 h3 k3
    subst h1 h2
    refine .inl ⟨.inr rfl, ?_⟩
    (repeat (first | (with_reducible (first | refine Rt.fin ?_ | refine Rt.tL ?_ | refine Rt.tI ?_ | refine Rt.tB ?_ | refine Rt.tS ?_ | refine Rt.tP ?_ | refine Rt.tD ?_ | refine Rt.tM ?_ | refine Rt.tC ?_ | refine Rt.tN ?_ | refine Rt.tA ?_ | refine Rt.tG ?_ | refine Rt.tF ?_ | refine Rt.os ?_ | refine Rt.clS ?_ | refine Rt.jmN ?_ | refine Rt.jbN ?_ | refine Rt.jbE ?_)) | ((with_reducible (first | apply Rt.ld0 | apply Rt.ld1 | apply Rt.ld2 | apply Rt.ld3 | apply Rt.ld4 | apply Rt.ld5)); first | assumption | exact Lc.kp (by assumption) (by assumption)) | ((with_reducible apply Rt.ol); first | assumption | exact cell_kp (by assumption) (by assumption)) | ((with_reducible apply Rt.ckR); focus ((repeat (first | (with_reducible (first | refine Rt.fin ?_ | refine Rt.tL ?_ | refine Rt.tI ?_ | refine Rt.tB ?_ | refine Rt.tS ?_ | refine Rt.tP ?_ | refine Rt.tD ?_ | refine Rt.tM ?_ | refine Rt.tC ?_ | refine Rt.tN ?_ | refine Rt.tA ?_ | refine Rt.tG ?_ | refine Rt.tF ?_ | refine Rt.os ?_ | refine Rt.clS ?_ | refine Rt.jmN ?_ | refine Rt.jbN ?_ | refine Rt.jbE ?_)) | ((with_reducible (first | apply Rt.ld0 | apply Rt.ld1 | apply Rt.ld2 | apply Rt.ld3 | apply Rt.ld4 | apply Rt.ld5)); first | assumption | exact Lc.kp (by assumption) (by assumption)) | ((with_reducible apply Rt.ol); first | assumption | exact cell_kp (by assumption) (by assumption)))); exact Rt.some' rfl))))
    exact Rt.some' ⟨rfl, D, c8, w3, rfl, h3.ev, k12.tr k3⟩
end
end Go.Proofs.Ytoilmnplocfipaa.Dr
