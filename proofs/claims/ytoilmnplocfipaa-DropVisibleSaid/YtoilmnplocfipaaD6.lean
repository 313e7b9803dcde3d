/- Drop: Visible of the program. -/
import Derived.Test.YtoilmnplocfipaaD5
namespace Go.Proofs.Ytoilmnplocfipaa.Dr
open Go Big Go.RowKit Go.IntWalk Ik
set_option linter.unusedVariables false
set_option linter.unusedSimpArgs false
section
variable {α : Type} {Q : α → Prop} {n base : Nat} {w w0 w' : World} {A B C D : Option Addr} {l c m d a1 a2 b1 b2 : Nat} {s k s' k' : Int} {x y : En} {xs ys zs : List En} {ss : List Int} {v : Value} {ps qs : List Pr}
theorem pr_stb2 {x : Pr} (o1 : Own .u8 5 w a1 (.slice A l c) x.1) (o2 : Own .u8 5 w a2 (.slice B m d) x.2) (r1 : ∀ z ∈ x.1, (Lit.int .u8 z).wf = true) (r2 : ∀ z ∈ x.2, (Lit.int .u8 z).wf = true)
    (h : ∀ j, On v j → j < a1 ∧ j < a2) : Stb (On v) (fun w => prEl.rd w [.slice A l c, .slice B m d] x) w :=
  fun w' hg => ⟨_, _, _, _, _, _, rfl, (o1.gx hg fun j hj hv => by have := (o1.lt j hj).1; have := h j hv; omega).bv r1, (o2.gx hg fun j hj hv => by have := (o2.lt j hj).1; have := h j hv; omega).bv r2⟩
theorem Visible_l0 {q : Int} {bb : Nat} (hn2 : 2 ^ 50 < n) (hb : Lc w0 bb [.int .u64 q]) : ∀ (f j : Nat) (xs : List En) (ps : List Pr) (A : Option Addr) (l c : Nat) (D : Option Addr) (c8 : Nat) (w' : World), xs.length ≤ f → f < j → Kp w0 w' → (∀ z ∈ xs, z.key.length ≤ 2 ^ 38 ∧ z.val.length ≤ 2 ^ 38) → ps.length + xs.length ≤ 2 ^ 34 →
    Ev enEl w0 A l c xs → OwnE prEl 88 w' w0.heap.size (.slice D ps.length c8) ps →
    Rt (drop_Visible.l0 n j A l c ⟨bb, 0, none⟩ D ps.length c8 w') fun r => r.ex = .exit 0 ∧ ∃ D c8, r.vals = [.slice D (ps ++ visP q xs).length c8] ∧ OwnE prEl 88 r.w w0.heap.size (.slice D (ps ++ visP q xs).length c8) (ps ++ visP q xs) ∧ Kp w0 r.w := by
  obtain ⟨t, z, hT⟩ := slP
  intro f
  induction f with
  | zero =>
    intro j xs ys A l c D c8 w' hq hj hk hL h34 hx ho
    obtain ⟨j, rfl⟩ : ∃ j', j = j' + 1 := ⟨j - 1, by omega⟩
    obtain rfl : xs = [] := List.length_eq_zero_iff.1 (by omega)
    have := hx.len
    rw [drop_Visible.l0_succ, visP_nil, List.append_nil]
    exact Rt.cDF (by simp at this; omega) (Rt.some' ⟨rfl, D, c8, rfl, ho, hk⟩)
  | succ f ih =>
    intro j xs ys A l c D c8 w' hq hj hk hL h34 hx ho
    obtain ⟨j, rfl⟩ : ∃ j', j = j' + 1 := ⟨j - 1, by omega⟩
    have hxl := hx.len
    rw [drop_Visible.l0_succ]
    by_cases hne : xs = []
    · subst hne
      rw [visP_nil, List.append_nil]
      exact Rt.cDF (by simp at hxl; omega) (Rt.some' ⟨rfl, D, c8, rfl, ho, hk⟩)
    · have hpos : 0 < xs.length := List.length_pos_iff.2 hne
      have hg1 := grp_pos hne
      have hg2 := grp_le xs
      refine Rt.cDT (by omega) (Rt.cI (user_spec (hx.kp hk) hne (by omega) (by omega)) fun w1 k1 => ?_)
      have k01 := hk.tr k1
      refine Rt.cutE hx rfl (by omega) (by omega) (by omega) fun A2 hx2 => ?_
      have ei : ((grp xs : Nat) : Int).toNat = grp xs := by omega
      rw [ei] at hx2 ⊢
      have e0 : List.drop (Int.toNat 0) (List.take (grp xs) xs) = xs.take (grp xs) := rfl
      rw [e0] at hx2
      have hl2 := hx2.len
      have ho1 := ho.kp k1
      have hlt : (xs.take (grp xs)).length = grp xs := by rw [List.length_take]; omega
      refine Rt.call (Find_spec (n := n) (q := q) (bb := bb) (hx2.kp k01) (by omega) (by omega) (hb.kp k01)) fun vs w3 h3 => ?_
      obtain ⟨fi, w3', e3, k3, hf⟩ := h3
      injection e3 with e3 e4
      subst e3 e4
      (repeat (first | (with_reducible (first | refine Rt.fin ?_ | refine Rt.tL ?_ | refine Rt.tI ?_ | refine Rt.tB ?_ | refine Rt.tS ?_ | refine Rt.tP ?_ | refine Rt.tD ?_ | refine Rt.tM ?_ | refine Rt.tC ?_ | refine Rt.tN ?_ | refine Rt.tA ?_ | refine Rt.tG ?_ | refine Rt.tF ?_ | refine Rt.os ?_ | refine Rt.clS ?_ | refine Rt.jmN ?_ | refine Rt.jbN ?_ | refine Rt.jbE ?_)) | ((with_reducible (first | apply Rt.ld0 | apply Rt.ld1 | apply Rt.ld2 | apply Rt.ld3 | apply Rt.ld4 | apply Rt.ld5)); first | assumption | exact Lc.kp (by assumption) (by assumption)) | ((with_reducible apply Rt.ol); first | assumption | exact cell_kp (by assumption) (by assumption)) | ((with_reducible apply Rt.ckR); focus ((repeat (first | (with_reducible (first | refine Rt.fin ?_ | refine Rt.tL ?_ | refine Rt.tI ?_ | refine Rt.tB ?_ | refine Rt.tS ?_ | refine Rt.tP ?_ | refine Rt.tD ?_ | refine Rt.tM ?_ | refine Rt.tC ?_ | refine Rt.tN ?_ | refine Rt.tA ?_ | refine Rt.tG ?_ | refine Rt.tF ?_ | refine Rt.os ?_ | refine Rt.clS ?_ | refine Rt.jmN ?_ | refine Rt.jbN ?_ | refine Rt.jbE ?_)) | ((with_reducible (first | apply Rt.ld0 | apply Rt.ld1 | apply Rt.ld2 | apply Rt.ld3 | apply Rt.ld4 | apply Rt.ld5)); first | assumption | exact Lc.kp (by assumption) (by assumption)) | ((with_reducible apply Rt.ol); first | assumption | exact cell_kp (by assumption) (by assumption)))); exact Rt.some' rfl))))
      have k03 := k01.tr k3
      have ho3 := ho1.kp k3
      rw [visP_cons hne, ← List.append_assoc]
      have cont : ∀ (w4 : World) (D' : Option Addr) (c9 : Nat), Kp w0 w4 → OwnE prEl 88 w4 w0.heap.size (.slice D' (ys ++ seenAt q (xs.take (grp xs))).length c9) (ys ++ seenAt q (xs.take (grp xs))) →
          Rt (cutS A c (grp xs : Int) (l : Int) 4 fun A75 l76 c77 => drop_Visible.l0 n j A75 l76 c77 ⟨bb, 0, none⟩ D' (ys ++ seenAt q (xs.take (grp xs))).length c9 w4) fun r => r.ex = .exit 0 ∧ ∃ D c8, r.vals = [.slice D (ys ++ seenAt q (xs.take (grp xs)) ++ visP q (xs.drop (grp xs))).length c8] ∧
            OwnE prEl 88 r.w w0.heap.size (.slice D (ys ++ seenAt q (xs.take (grp xs)) ++ visP q (xs.drop (grp xs))).length c8) (ys ++ seenAt q (xs.take (grp xs)) ++ visP q (xs.drop (grp xs))) ∧ Kp w0 r.w := by
        intro w4 D' c9 k4 o4
        refine Rt.cutE hx rfl (by omega) (by omega) (by omega) fun A5 hx5 => ?_
        rw [Int.toNat_natCast, Int.toNat_natCast] at hx5 ⊢
        rw [List.take_of_length_le (by omega)] at hx5
        have := seenAt_len (q := q) (g := xs.take (grp xs))
        exact ih j (xs.drop (grp xs)) _ A5 _ _ D' c9 w4 (by rw [List.length_drop]; omega) (by omega) k4 (fun z hz => hL z (List.mem_of_mem_drop hz)) (by rw [List.length_append, List.length_drop]; omega) hx5 o4
      have none_ : seenAt q (xs.take (grp xs)) = [] → Rt (some (⟨.norm, [.slice A l c, .pointer (some ⟨bb, 0, none⟩), .slice D ys.length c8, .int .i64 (grp xs : Int)], w3⟩ : Res)) fun r => r.ex = .norm ∧ ∃ D' c9, r.vals = [.slice A l c, .pointer (some ⟨bb, 0, none⟩), .slice D' (ys ++ seenAt q (xs.take (grp xs))).length c9, .int .i64 (grp xs : Int)] ∧
          Kp w0 r.w ∧ OwnE prEl 88 r.w w0.heap.size (.slice D' (ys ++ seenAt q (xs.take (grp xs))).length c9) (ys ++ seenAt q (xs.take (grp xs))) := by
        intro h
        rw [h, List.append_nil]
        exact Rt.some' ⟨rfl, D, c8, rfl, k03, ho3⟩
      refine Rt.jm (Rt.mono (Q' := fun r => r.ex = .norm ∧ ∃ D' c9, r.vals = [.slice A l c, .pointer (some ⟨bb, 0, none⟩), .slice D' (ys ++ seenAt q (xs.take (grp xs))).length c9, .int .i64 (grp xs : Int)] ∧
          Kp w0 r.w ∧ OwnE prEl 88 r.w w0.heap.size (.slice D' (ys ++ seenAt q (xs.take (grp xs))).length c9) (ys ++ seenAt q (xs.take (grp xs)))) ?_ ?_)
      · rcases hf with ⟨rfl, hf⟩ | ⟨fk, x, rfl, hfk, hf⟩
        · exact Rt.cDF (by omega) (none_ (by unfold seenAt; rw [hf]))
        · have hfx : xs[fk]? = some x := by
            rw [List.getElem?_take] at hfk; split at hfk
            · exact hfk
            · cases hfk
          have hflt := (List.getElem?_eq_some_iff.1 hfx).1
          have hmem := hL x (List.mem_of_getElem? hfx)
          refine Rt.cDT (by omega) (Rt.ixN (hx.kp k03).sl (by omega) (by omega) fun x' a B1 b1 b2 s k C1 c1 c2 ex hv g0 g1 g2 g3 => ?_)
          rw [Int.toNat_natCast, hfx] at ex
          injection ex with ex
          subst ex
          have hkd := hv.kind
          (repeat (first | (with_reducible (first | refine Rt.fin ?_ | refine Rt.tL ?_ | refine Rt.tI ?_ | refine Rt.tB ?_ | refine Rt.tS ?_ | refine Rt.tP ?_ | refine Rt.tD ?_ | refine Rt.tM ?_ | refine Rt.tC ?_ | refine Rt.tN ?_ | refine Rt.tA ?_ | refine Rt.tG ?_ | refine Rt.tF ?_ | refine Rt.os ?_ | refine Rt.clS ?_ | refine Rt.jmN ?_ | refine Rt.jbN ?_ | refine Rt.jbE ?_)) | ((with_reducible (first | apply Rt.ld0 | apply Rt.ld1 | apply Rt.ld2 | apply Rt.ld3 | apply Rt.ld4 | apply Rt.ld5)); first | assumption | exact Lc.kp (by assumption) (by assumption)) | ((with_reducible apply Rt.ol); first | assumption | exact cell_kp (by assumption) (by assumption)) | ((with_reducible apply Rt.ckR); focus ((repeat (first | (with_reducible (first | refine Rt.fin ?_ | refine Rt.tL ?_ | refine Rt.tI ?_ | refine Rt.tB ?_ | refine Rt.tS ?_ | refine Rt.tP ?_ | refine Rt.tD ?_ | refine Rt.tM ?_ | refine Rt.tC ?_ | refine Rt.tN ?_ | refine Rt.tA ?_ | refine Rt.tG ?_ | refine Rt.tF ?_ | refine Rt.os ?_ | refine Rt.clS ?_ | refine Rt.jmN ?_ | refine Rt.jbN ?_ | refine Rt.jbE ?_)) | ((with_reducible (first | apply Rt.ld0 | apply Rt.ld1 | apply Rt.ld2 | apply Rt.ld3 | apply Rt.ld4 | apply Rt.ld5)); first | assumption | exact Lc.kp (by assumption) (by assumption)) | ((with_reducible apply Rt.ol); first | assumption | exact cell_kp (by assumption) (by assumption)))); exact Rt.some' rfl))))
          refine Rt.cQ (fun h => ?_) fun h => none_ (by unfold seenAt; rw [hf]; exact if_neg (by omega))
          have hs : seenAt q (xs.take (grp xs)) = [(x.key, x.val)] := by unfold seenAt; rw [hf]; exact if_pos (by omega)
          rw [hs]
          have k3d := (Kp.rfl' w3).dr
          refine Rt.ixN (hx.kp k03.dr).sl (by omega) (by omega) fun x' a B1 b1 b2 s k C1 c1 c2 ex hv g0 g1 g2 g3 => ?_
          rw [Int.toNat_natCast, hfx] at ex
          injection ex with ex
          subst ex
          have hv1 := hv.key.len
          have hv2 := hv.val.len
          (repeat (first | (with_reducible (first | refine Rt.fin ?_ | refine Rt.tL ?_ | refine Rt.tI ?_ | refine Rt.tB ?_ | refine Rt.tS ?_ | refine Rt.tP ?_ | refine Rt.tD ?_ | refine Rt.tM ?_ | refine Rt.tC ?_ | refine Rt.tN ?_ | refine Rt.tA ?_ | refine Rt.tG ?_ | refine Rt.tF ?_ | refine Rt.os ?_ | refine Rt.clS ?_ | refine Rt.jmN ?_ | refine Rt.jbN ?_ | refine Rt.jbE ?_)) | ((with_reducible (first | apply Rt.ld0 | apply Rt.ld1 | apply Rt.ld2 | apply Rt.ld3 | apply Rt.ld4 | apply Rt.ld5)); first | assumption | exact Lc.kp (by assumption) (by assumption)) | ((with_reducible apply Rt.ol); first | assumption | exact cell_kp (by assumption) (by assumption)) | ((with_reducible apply Rt.ckR); focus ((repeat (first | (with_reducible (first | refine Rt.fin ?_ | refine Rt.tL ?_ | refine Rt.tI ?_ | refine Rt.tB ?_ | refine Rt.tS ?_ | refine Rt.tP ?_ | refine Rt.tD ?_ | refine Rt.tM ?_ | refine Rt.tC ?_ | refine Rt.tN ?_ | refine Rt.tA ?_ | refine Rt.tG ?_ | refine Rt.tF ?_ | refine Rt.os ?_ | refine Rt.clS ?_ | refine Rt.jmN ?_ | refine Rt.jbN ?_ | refine Rt.jbE ?_)) | ((with_reducible (first | apply Rt.ld0 | apply Rt.ld1 | apply Rt.ld2 | apply Rt.ld3 | apply Rt.ld4 | apply Rt.ld5)); first | assumption | exact Lc.kp (by assumption) (by assumption)) | ((with_reducible apply Rt.ol); first | assumption | exact cell_kp (by assumption) (by assumption)))); exact Rt.some' rfl))))
          refine Rt.cO (Clone_spec hv.key (by omega)) fun B3 d3 w4 o4 k4 => ?_
          refine Rt.ixN (hx.kp k03.dr).sl (by omega) (by omega) fun x' a' B1' b1' b2' s' k' C1' c1' c2' ex hv' g0' g1' g2' g3' => ?_
          rw [Int.toNat_natCast, hfx] at ex
          injection ex with ex
          subst ex
          have hv3 := hv'.val.len
          have g3'' := cell_kp g3' k4
          (repeat (first | (with_reducible (first | refine Rt.fin ?_ | refine Rt.tL ?_ | refine Rt.tI ?_ | refine Rt.tB ?_ | refine Rt.tS ?_ | refine Rt.tP ?_ | refine Rt.tD ?_ | refine Rt.tM ?_ | refine Rt.tC ?_ | refine Rt.tN ?_ | refine Rt.tA ?_ | refine Rt.tG ?_ | refine Rt.tF ?_ | refine Rt.os ?_ | refine Rt.clS ?_ | refine Rt.jmN ?_ | refine Rt.jbN ?_ | refine Rt.jbE ?_)) | ((with_reducible (first | apply Rt.ld0 | apply Rt.ld1 | apply Rt.ld2 | apply Rt.ld3 | apply Rt.ld4 | apply Rt.ld5)); first | assumption | exact Lc.kp (by assumption) (by assumption)) | ((with_reducible apply Rt.ol); first | assumption | exact cell_kp (by assumption) (by assumption)) | ((with_reducible apply Rt.ckR); focus ((repeat (first | (with_reducible (first | refine Rt.fin ?_ | refine Rt.tL ?_ | refine Rt.tI ?_ | refine Rt.tB ?_ | refine Rt.tS ?_ | refine Rt.tP ?_ | refine Rt.tD ?_ | refine Rt.tM ?_ | refine Rt.tC ?_ | refine Rt.tN ?_ | refine Rt.tA ?_ | refine Rt.tG ?_ | refine Rt.tF ?_ | refine Rt.os ?_ | refine Rt.clS ?_ | refine Rt.jmN ?_ | refine Rt.jbN ?_ | refine Rt.jbE ?_)) | ((with_reducible (first | apply Rt.ld0 | apply Rt.ld1 | apply Rt.ld2 | apply Rt.ld3 | apply Rt.ld4 | apply Rt.ld5)); first | assumption | exact Lc.kp (by assumption) (by assumption)) | ((with_reducible apply Rt.ol); first | assumption | exact cell_kp (by assumption) (by assumption)))); exact Rt.some' rfl))))
          refine Rt.cO (Clone_spec (hv'.val.kp k4) (by omega)) fun B5 d5 w5 o5 k5 => ?_
          have k35 : Kp w3 w5 := k3d.tr (k4.tr k5)
          have ho5 := ho3.kp k35
          refine Rt.app1f rfl hT ho5 rfl (pr_stb2 (x := (x.key, x.val)) (o4.kp k5) o5 hv.key.rng hv'.val.rng fun jj hj => ?_) (by omega) (by have := k03.size; have := k35.size; omega) fun A7 c9 w7 o7 g7 f7 s7 => ?_
          · have h1 := (ho3.lt jj hj).2
            have h2 : w3.drew.heap.size = w3.heap.size := rfl
            have := k4.size
            exact ⟨by omega, by omega⟩
          (repeat (first | (with_reducible (first | refine Rt.fin ?_ | refine Rt.tL ?_ | refine Rt.tI ?_ | refine Rt.tB ?_ | refine Rt.tS ?_ | refine Rt.tP ?_ | refine Rt.tD ?_ | refine Rt.tM ?_ | refine Rt.tC ?_ | refine Rt.tN ?_ | refine Rt.tA ?_ | refine Rt.tG ?_ | refine Rt.tF ?_ | refine Rt.os ?_ | refine Rt.clS ?_ | refine Rt.jmN ?_ | refine Rt.jbN ?_ | refine Rt.jbE ?_)) | ((with_reducible (first | apply Rt.ld0 | apply Rt.ld1 | apply Rt.ld2 | apply Rt.ld3 | apply Rt.ld4 | apply Rt.ld5)); first | assumption | exact Lc.kp (by assumption) (by assumption)) | ((with_reducible apply Rt.ol); first | assumption | exact cell_kp (by assumption) (by assumption)) | ((with_reducible apply Rt.ckR); focus ((repeat (first | (with_reducible (first | refine Rt.fin ?_ | refine Rt.tL ?_ | refine Rt.tI ?_ | refine Rt.tB ?_ | refine Rt.tS ?_ | refine Rt.tP ?_ | refine Rt.tD ?_ | refine Rt.tM ?_ | refine Rt.tC ?_ | refine Rt.tN ?_ | refine Rt.tA ?_ | refine Rt.tG ?_ | refine Rt.tF ?_ | refine Rt.os ?_ | refine Rt.clS ?_ | refine Rt.jmN ?_ | refine Rt.jbN ?_ | refine Rt.jbE ?_)) | ((with_reducible (first | apply Rt.ld0 | apply Rt.ld1 | apply Rt.ld2 | apply Rt.ld3 | apply Rt.ld4 | apply Rt.ld5)); first | assumption | exact Lc.kp (by assumption) (by assumption)) | ((with_reducible apply Rt.ol); first | assumption | exact cell_kp (by assumption) (by assumption)))); exact Rt.some' rfl))))
          have e2 : ys.length + 1 = (ys ++ [(x.key, x.val)]).length := by rw [List.length_append]; rfl
          rw [e2] at o7 ⊢
          exact Rt.some' ⟨rfl, A7, c9, rfl, (k03.tr k35).tx g7 fun jj hj => (ho3.lt jj hj).1, o7⟩
      · rintro ⟨ex, vs, w4⟩ ⟨h1, D', c9, h2, k4, o4⟩
        dsimp only at h1 h2 k4 o4
        subst h1 h2
        refine ⟨rfl, ?_⟩
        dsimp only
        (repeat (first | (with_reducible (first | refine Rt.fin ?_ | refine Rt.tL ?_ | refine Rt.tI ?_ | refine Rt.tB ?_ | refine Rt.tS ?_ | refine Rt.tP ?_ | refine Rt.tD ?_ | refine Rt.tM ?_ | refine Rt.tC ?_ | refine Rt.tN ?_ | refine Rt.tA ?_ | refine Rt.tG ?_ | refine Rt.tF ?_ | refine Rt.os ?_ | refine Rt.clS ?_ | refine Rt.jmN ?_ | refine Rt.jbN ?_ | refine Rt.jbE ?_)) | ((with_reducible (first | apply Rt.ld0 | apply Rt.ld1 | apply Rt.ld2 | apply Rt.ld3 | apply Rt.ld4 | apply Rt.ld5)); first | assumption | exact Lc.kp (by assumption) (by assumption)) | ((with_reducible apply Rt.ol); first | assumption | exact cell_kp (by assumption) (by assumption)) | ((with_reducible apply Rt.ckR); focus ((repeat (first | (with_reducible (first | refine Rt.fin ?_ | refine Rt.tL ?_ | refine Rt.tI ?_ | refine Rt.tB ?_ | refine Rt.tS ?_ | refine Rt.tP ?_ | refine Rt.tD ?_ | refine Rt.tM ?_ | refine Rt.tC ?_ | refine Rt.tN ?_ | refine Rt.tA ?_ | refine Rt.tG ?_ | refine Rt.tF ?_ | refine Rt.os ?_ | refine Rt.clS ?_ | refine Rt.jmN ?_ | refine Rt.jbN ?_ | refine Rt.jbE ?_)) | ((with_reducible (first | apply Rt.ld0 | apply Rt.ld1 | apply Rt.ld2 | apply Rt.ld3 | apply Rt.ld4 | apply Rt.ld5)); first | assumption | exact Lc.kp (by assumption) (by assumption)) | ((with_reducible apply Rt.ol); first | assumption | exact cell_kp (by assumption) (by assumption)))); exact Rt.some' rfl))))
        exact cont w4 D' c9 k4 o4
theorem Visible_spec {q : Int} (hx : Ev enEl w A l c xs) (hL : ∀ z ∈ xs, z.key.length ≤ 2 ^ 38 ∧ z.val.length ≤ 2 ^ 38) (hl : l ≤ 2 ^ 33) (hn2 : 2 ^ 50 < n) : Rt (drop_Visible n [.slice A l c, .int .u64 q] w) (RPv (visR q xs) w) := by
  have hxl := hx.len
  rw [drop_Visible_eq]
  refine Rt.fin (Rt.al fun w1 l1 k1 s1 => Rt.cBo (Rising_spec (hx.kp k1) (by omega) (by omega)) fun b w2 hb k2 => ?_)
  have k12 := k1.tr k2
  unfold visR
  cases b with
  | false =>
    have : ¬ risingE xs := fun h => by simpa using hb.2 h
    rw [if_neg this]
    exact Rt.cT rfl (Rt.some' ⟨rfl, none, 0, w2, rfl, ⟨SlE.nil .., fun _ => ⟨rfl, rfl⟩, Nat.le_refl _, Nat.zero_le _⟩, k12⟩)
  | true =>
    rw [if_pos (hb.1 rfl)]
    have hh := Visible_l0 (n := n) (w0 := w2) (q := q) (bb := w.heap.size) hn2 (l1.kp k2) xs.length n xs [] A l c none 0 w2 (Nat.le_refl _) (by omega) (Kp.rfl' _) hL (by simp; omega) (hx.kp k12) (OwnE.nil _ _)
    refine Rt.cF rfl (Rt.jb (Rt.mono hh ?_))
    rintro ⟨ex, vs, w3⟩ ⟨h1, D, c8, h2, h3, k3⟩
    dsimp only at h1 h2 h3 k3
    subst h1 h2
    refine .inl ⟨.inr rfl, ?_⟩
    (repeat (first | (with_reducible (first | refine Rt.fin ?_ | refine Rt.tL ?_ | refine Rt.tI ?_ | refine Rt.tB ?_ | refine Rt.tS ?_ | refine Rt.tP ?_ | refine Rt.tD ?_ | refine Rt.tM ?_ | refine Rt.tC ?_ | refine Rt.tN ?_ | refine Rt.tA ?_ | refine Rt.tG ?_ | refine Rt.tF ?_ | refine Rt.os ?_ | refine Rt.clS ?_ | refine Rt.jmN ?_ | refine Rt.jbN ?_ | refine Rt.jbE ?_)) | ((with_reducible (first | apply Rt.ld0 | apply Rt.ld1 | apply Rt.ld2 | apply Rt.ld3 | apply Rt.ld4 | apply Rt.ld5)); first | assumption | exact Lc.kp (by assumption) (by assumption)) | ((with_reducible apply Rt.ol); first | assumption | exact cell_kp (by assumption) (by assumption)) | ((with_reducible apply Rt.ckR); focus ((repeat (first | (with_reducible (first | refine Rt.fin ?_ | refine Rt.tL ?_ | refine Rt.tI ?_ | refine Rt.tB ?_ | refine Rt.tS ?_ | refine Rt.tP ?_ | refine Rt.tD ?_ | refine Rt.tM ?_ | refine Rt.tC ?_ | refine Rt.tN ?_ | refine Rt.tA ?_ | refine Rt.tG ?_ | refine Rt.tF ?_ | refine Rt.os ?_ | refine Rt.clS ?_ | refine Rt.jmN ?_ | refine Rt.jbN ?_ | refine Rt.jbE ?_)) | ((with_reducible (first | apply Rt.ld0 | apply Rt.ld1 | apply Rt.ld2 | apply Rt.ld3 | apply Rt.ld4 | apply Rt.ld5)); first | assumption | exact Lc.kp (by assumption) (by assumption)) | ((with_reducible apply Rt.ol); first | assumption | exact cell_kp (by assumption) (by assumption)))); exact Rt.some' rfl))))
    exact Rt.some' ⟨rfl, D, c8, w3, rfl, h3.ev, k12.tr k3⟩
end
end Go.Proofs.Ytoilmnplocfipaa.Dr
