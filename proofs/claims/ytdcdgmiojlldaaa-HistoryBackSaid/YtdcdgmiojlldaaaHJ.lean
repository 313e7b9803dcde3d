/- History: Within, Scan: the whole. -/
import Derived.Test.YtdcdgmiojlldaaaHI
namespace Go.Proofs.Ytdcdgmiojlldaaa.Hi
open Go Big Go.RowKit Go.IntWalk Go.Maps Go.WideShapes
set_option linter.unusedVariables false
set_option linter.unusedSimpArgs false
noncomputable def filt (fr to : List Int) (qs : List KV) : List KV := qs.filter fun q => !pd fr to q
abbrev delV (b1 b2 : Nat) : Value := .func (.func 19) #[] #[.pointer (some ⟨b1, 0, none⟩), .pointer (some ⟨b2, 0, none⟩)]
section
variable {α : Type} {Q : α → Prop} {n m base mb b g N i b1 b2 : Nat} {w w' w0 w1 ws : World} {A B C : Option Addr} {l c m1 d1 m2 d2 d k : Nat} {bs cs fr to : List Int} {S T : Nat → Prop} {xs ys : List PV} {vs : List Value} {gv : PV → KV} {qs : List KV} {X : List (List OpD)}
theorem DelF_spec (hn : 2 ^ 60 < n) (hc : Cx w0 b1 b2 fr to) (hg : ∀ x ∈ xs, Bv .u8 w0 x.kA x.kl x.kc (gv x).1) (hl : l ≤ 2 ^ 20) (hbase : w0.heap.size ≤ base) (hk : Kp w0 w) (hr : Row2 w base A l c xs) :
    Rt (api_Pair n [.slice A l c, delV b1 b2] w) fun y => ∃ w' m, y = ([.slice A m c], w') ∧ Row2 w' base A m c (stay fr to gv xs) ∧ Gx (On (.slice A l c)) w w' := by
  have hxl := hr.len
  rw [api_Pair_eq]
  have hidx : Rt (api_Pair_28 n [.slice A l c, delV b1 b2] w) fun y => ∃ w', Kp w w' ∧ ((y = ([.int .i64 (-1)], w') ∧ ∀ (t : Nat) (x : PV), xs[t]? = some x → pd fr to (gv x) = false) ∨ ∃ i' : Nat, i' < l ∧ y = ([.int .i64 (i' : Int)], w') ∧ (∃ x, xs[i']? = some x ∧ pd fr to (gv x) = true) ∧ ∀ (t : Nat) (x : PV), t < i' → xs[t]? = some x → pd fr to (gv x) = false) := by
    rw [api_Pair_28_eq]
    refine Rt.fin (Rt.jb (Rt.mono (Idx_l0 (n := n) hc hg hl l 0 n w (by omega) (by omega) hk hr fun t x ht => by omega) ?_))
    rintro _ ⟨w1, k1, ⟨rfl, h1⟩ | ⟨i', h1, rfl, h2, h3⟩⟩
    · exact .inl ⟨.inr rfl, Rt.tN (Rt.some' ⟨rfl, w1, k1, .inl ⟨rfl, h1⟩⟩)⟩
    · exact .inr ⟨rfl, rfl, w1, k1, .inr ⟨i', h1, rfl, h2, h3⟩⟩
  obtain ⟨_, e, w1, k1, ⟨rfl, hall⟩ | ⟨i, hi, rfl, ⟨x, hx, hpx⟩, hpre⟩⟩ := hidx
  · refine Rt.fin (Rt.cl e ?_)
    (repeat (first | (with_reducible (first | refine Rt.fin ?_ | refine Rt.tL ?_ | refine Rt.tI ?_ | refine Rt.tB ?_ | refine Rt.tS ?_ | refine Rt.tP ?_ | refine Rt.tD ?_ | refine Rt.tM ?_ | refine Rt.tC ?_ | refine Rt.tN ?_ | refine Rt.tA ?_ | refine Rt.tG ?_ | refine Rt.tF ?_ | refine Rt.os ?_ | refine Rt.clS ?_ | refine Rt.jmN ?_ | refine Rt.jbN ?_ | refine Rt.jbE ?_)) | ((with_reducible (first | apply Rt.ld0 | apply Rt.ld1 | apply Rt.ld2 | apply Rt.ld3 | apply Rt.ld4 | apply Rt.ld5)); first | assumption | exact Lc.kp (by assumption) (by assumption)) | ((with_reducible apply Rt.ol); first | assumption | exact cell_kp (by assumption) (by assumption)) | ((with_reducible apply Rt.ckR); focus ((repeat (first | (with_reducible (first | refine Rt.fin ?_ | refine Rt.tL ?_ | refine Rt.tI ?_ | refine Rt.tB ?_ | refine Rt.tS ?_ | refine Rt.tP ?_ | refine Rt.tD ?_ | refine Rt.tM ?_ | refine Rt.tC ?_ | refine Rt.tN ?_ | refine Rt.tA ?_ | refine Rt.tG ?_ | refine Rt.tF ?_ | refine Rt.os ?_ | refine Rt.clS ?_ | refine Rt.jmN ?_ | refine Rt.jbN ?_ | refine Rt.jbE ?_)) | ((with_reducible (first | apply Rt.ld0 | apply Rt.ld1 | apply Rt.ld2 | apply Rt.ld3 | apply Rt.ld4 | apply Rt.ld5)); first | assumption | exact Lc.kp (by assumption) (by assumption)) | ((with_reducible apply Rt.ol); first | assumption | exact cell_kp (by assumption) (by assumption)))); exact Rt.some' rfl))))
    refine Rt.cQ (fun _ => ?_) fun h => absurd rfl h
    have hs : stay fr to gv xs = xs := List.filter_eq_self.2 fun x hx => by
      obtain ⟨t, ht⟩ := List.getElem?_of_mem hx
      rw [hall t x ht]; rfl
    exact Rt.some' ⟨rfl, w1, l, rfl, by rw [hs]; exact hr.kp k1, k1.gx⟩
  · refine Rt.fin (Rt.cl e ?_)
    (repeat (first | (with_reducible (first | refine Rt.fin ?_ | refine Rt.tL ?_ | refine Rt.tI ?_ | refine Rt.tB ?_ | refine Rt.tS ?_ | refine Rt.tP ?_ | refine Rt.tD ?_ | refine Rt.tM ?_ | refine Rt.tC ?_ | refine Rt.tN ?_ | refine Rt.tA ?_ | refine Rt.tG ?_ | refine Rt.tF ?_ | refine Rt.os ?_ | refine Rt.clS ?_ | refine Rt.jmN ?_ | refine Rt.jbN ?_ | refine Rt.jbE ?_)) | ((with_reducible (first | apply Rt.ld0 | apply Rt.ld1 | apply Rt.ld2 | apply Rt.ld3 | apply Rt.ld4 | apply Rt.ld5)); first | assumption | exact Lc.kp (by assumption) (by assumption)) | ((with_reducible apply Rt.ol); first | assumption | exact cell_kp (by assumption) (by assumption)) | ((with_reducible apply Rt.ckR); focus ((repeat (first | (with_reducible (first | refine Rt.fin ?_ | refine Rt.tL ?_ | refine Rt.tI ?_ | refine Rt.tB ?_ | refine Rt.tS ?_ | refine Rt.tP ?_ | refine Rt.tD ?_ | refine Rt.tM ?_ | refine Rt.tC ?_ | refine Rt.tN ?_ | refine Rt.tA ?_ | refine Rt.tG ?_ | refine Rt.tF ?_ | refine Rt.os ?_ | refine Rt.clS ?_ | refine Rt.jmN ?_ | refine Rt.jbN ?_ | refine Rt.jbE ?_)) | ((with_reducible (first | apply Rt.ld0 | apply Rt.ld1 | apply Rt.ld2 | apply Rt.ld3 | apply Rt.ld4 | apply Rt.ld5)); first | assumption | exact Lc.kp (by assumption) (by assumption)) | ((with_reducible apply Rt.ol); first | assumption | exact cell_kp (by assumption) (by assumption)))); exact Rt.some' rfl))))
    refine Rt.cQ (fun h => by omega) fun _ => ?_
    rw [i64_in _ (by omega), show ((i : Int) + 1) = ((i + 1 : Nat) : Int) by omega]
    have ht : xs.take i = stay fr to gv (xs.take (i + 1)) := by
      rw [stay_take hx, if_pos hpx, List.append_nil]
      refine (List.filter_eq_self.2 fun z hz => ?_).symm
      obtain ⟨t, ht⟩ := List.getElem?_of_mem hz
      rw [List.getElem?_take] at ht
      split at ht
      · rw [hpre t z (by assumption) ht]; rfl
      · cases ht
    refine Rt.jb (Rt.mono (Del_l0 (n := n) hc hg hl hbase hxl (l - (i + 1)) i (i + 1) n w1 xs (by omega) (by omega) (by omega) (hk.tr k1) (hr.kp k1) ht rfl) ?_)
    rintro _ ⟨w2, i2, ys, rfl, hi2, hk2, hr2, ht2, g2⟩
    refine .inl ⟨.inr rfl, ?_⟩
    dsimp only
    (repeat (first | (with_reducible (first | refine Rt.fin ?_ | refine Rt.tL ?_ | refine Rt.tI ?_ | refine Rt.tB ?_ | refine Rt.tS ?_ | refine Rt.tP ?_ | refine Rt.tD ?_ | refine Rt.tM ?_ | refine Rt.tC ?_ | refine Rt.tN ?_ | refine Rt.tA ?_ | refine Rt.tG ?_ | refine Rt.tF ?_ | refine Rt.os ?_ | refine Rt.clS ?_ | refine Rt.jmN ?_ | refine Rt.jbN ?_ | refine Rt.jbE ?_)) | ((with_reducible (first | apply Rt.ld0 | apply Rt.ld1 | apply Rt.ld2 | apply Rt.ld3 | apply Rt.ld4 | apply Rt.ld5)); first | assumption | exact Lc.kp (by assumption) (by assumption)) | ((with_reducible apply Rt.ol); first | assumption | exact cell_kp (by assumption) (by assumption)) | ((with_reducible apply Rt.ckR); focus ((repeat (first | (with_reducible (first | refine Rt.fin ?_ | refine Rt.tL ?_ | refine Rt.tI ?_ | refine Rt.tB ?_ | refine Rt.tS ?_ | refine Rt.tP ?_ | refine Rt.tD ?_ | refine Rt.tM ?_ | refine Rt.tC ?_ | refine Rt.tN ?_ | refine Rt.tA ?_ | refine Rt.tG ?_ | refine Rt.tF ?_ | refine Rt.os ?_ | refine Rt.clS ?_ | refine Rt.jmN ?_ | refine Rt.jbN ?_ | refine Rt.jbE ?_)) | ((with_reducible (first | apply Rt.ld0 | apply Rt.ld1 | apply Rt.ld2 | apply Rt.ld3 | apply Rt.ld4 | apply Rt.ld5)); first | assumption | exact Lc.kp (by assumption) (by assumption)) | ((with_reducible apply Rt.ol); first | assumption | exact cell_kp (by assumption) (by assumption)))); exact Rt.some' rfl))))
    refine Rt.clearP (f := fun w A l c => some (⟨.ret, [.slice A l c], w⟩ : Res)) hr2 hi2 hl fun w3 r3 g3 => ?_
    rw [ht2] at r3
    exact Rt.some' ⟨rfl, w3, i2, rfl, r3, (k1.gx.tr g2).tr g3⟩
theorem pv_stb : ∀ {xs : List PV} {vs : List Value}, Big.Rows pvEl w vs xs → Big.Rows (pvEl.stb S) w vs xs
  | [], _, h => h
  | x :: xs, _, h => by
    obtain ⟨a, b, rfl, h1, h2, h3⟩ := h
    exact ⟨a, b, rfl, h1, fun _ _ => h2, pv_stb h3⟩
theorem CloneP_spec (h : Row2 w base A l c xs) (hl : l ≤ 2 ^ 20) : Rt (api_Pair_18 n [.slice A l c] w) fun y => ∃ A' c' w', y = ([.slice A' l c'], w') ∧ Row2 w' w.heap.size A' l c' xs ∧ Kp w w' := by
  obtain ⟨t, z, hT⟩ := slP
  have hxl := h.len
  rw [api_Pair_18_eq]
  cases A with
  | none =>
    have hev := h.to.ev
    obtain ⟨rfl, rfl⟩ := hev.nil rfl
    have : xs = [] := List.length_eq_zero_iff.1 hxl
    subst this
    exact Rt.fin (Rt.cT rfl (Rt.some' ⟨rfl, none, 0, w, rfl, Row2.of (OwnE.nil _ _), Kp.rfl' w⟩))
  | some a =>
    refine Rt.fin (Rt.cF rfl (Rt.ale (E := pvEl) [] 0 rfl rfl (by decide) fun w1 o1 k1 => ?_))
    have hev := (h.kp k1).to.ev
    have hev' : Ev (pvEl.stb (On (.slice (some ⟨w.heap.size, 0, none⟩) 0 0))) w1 (some a) l c xs := by
      refine ⟨⟨hev.sl.1, hev.sl.2.imp id ?_⟩, hev.nil, hev.cap, hev.max⟩
      rintro ⟨a', vs, e, hr, hc⟩
      exact ⟨a', vs, e, pv_stb hr, hc⟩
    have olt := o1.lt
    refine Rt.appT (E := pvEl) rfl hT o1 hev' (by simp; omega) k1.size fun C d w2 o2 g2 => ?_
    (repeat (first | (with_reducible (first | refine Rt.fin ?_ | refine Rt.tL ?_ | refine Rt.tI ?_ | refine Rt.tB ?_ | refine Rt.tS ?_ | refine Rt.tP ?_ | refine Rt.tD ?_ | refine Rt.tM ?_ | refine Rt.tC ?_ | refine Rt.tN ?_ | refine Rt.tA ?_ | refine Rt.tG ?_ | refine Rt.tF ?_ | refine Rt.os ?_ | refine Rt.clS ?_ | refine Rt.jmN ?_ | refine Rt.jbN ?_ | refine Rt.jbE ?_)) | ((with_reducible (first | apply Rt.ld0 | apply Rt.ld1 | apply Rt.ld2 | apply Rt.ld3 | apply Rt.ld4 | apply Rt.ld5)); first | assumption | exact Lc.kp (by assumption) (by assumption)) | ((with_reducible apply Rt.ol); first | assumption | exact cell_kp (by assumption) (by assumption)) | ((with_reducible apply Rt.ckR); focus ((repeat (first | (with_reducible (first | refine Rt.fin ?_ | refine Rt.tL ?_ | refine Rt.tI ?_ | refine Rt.tB ?_ | refine Rt.tS ?_ | refine Rt.tP ?_ | refine Rt.tD ?_ | refine Rt.tM ?_ | refine Rt.tC ?_ | refine Rt.tN ?_ | refine Rt.tA ?_ | refine Rt.tG ?_ | refine Rt.tF ?_ | refine Rt.os ?_ | refine Rt.clS ?_ | refine Rt.jmN ?_ | refine Rt.jbN ?_ | refine Rt.jbE ?_)) | ((with_reducible (first | apply Rt.ld0 | apply Rt.ld1 | apply Rt.ld2 | apply Rt.ld3 | apply Rt.ld4 | apply Rt.ld5)); first | assumption | exact Lc.kp (by assumption) (by assumption)) | ((with_reducible apply Rt.ol); first | assumption | exact cell_kp (by assumption) (by assumption)))); exact Rt.some' rfl))))
    rw [List.nil_append] at o2
    have e0 : ([] : List PV).length + l = l := by simp
    rw [e0] at o2 ⊢
    exact Rt.some' ⟨rfl, C, d, w2, rfl, Row2.of o2, k1.tx g2 fun j hj => (olt j hj).1⟩
/-- A row of pairs, as slices and what they hold. -/
theorem kv_of (h : OwnE prEl 33 w base (.slice A l c) qs) : ∃ (xs : List PV) (gv : PV → KV), Row2 w base A l c xs ∧ xs.map gv = qs ∧ ∀ x ∈ xs, Stb (On (.slice A l c)) (fun w => Bv .u8 w x.kA x.kl x.kc (gv x).1) w ∧ Stb (On (.slice A l c)) (fun w => Bv .u8 w x.vA x.vl x.vc (gv x).2) w := by
  obtain ⟨xs, hr, hxl, hst⟩ := OwnE.pv h
  have hxq : ∀ (i : Nat) (x : PV), xs[i]? = some x → ∃ q, qs[i]? = some q ∧ rdK w x.kA x.kl x.kc = q.1 ∧ rdK w x.vA x.vl x.vc = q.2 ∧ Stb (On (.slice A l c)) (fun w => Bv .u8 w x.kA x.kl x.kc q.1) w ∧ Stb (On (.slice A l c)) (fun w => Bv .u8 w x.vA x.vl x.vc q.2) w := fun i x hx => by
    have hi := (List.getElem?_eq_some_iff.1 hx).1
    have hq : qs[i]? = some (qs[i]'(by omega)) := List.getElem?_eq_getElem _
    obtain ⟨a, b⟩ := hst i x _ hx hq
    exact ⟨_, hq, rdK_eq a.out, rdK_eq b.out, a, b⟩
  refine ⟨xs, fun x => (rdK w x.kA x.kl x.kc, rdK w x.vA x.vl x.vc), hr, ?_, fun x hx => ?_⟩
  · refine List.ext_getElem? fun i => ?_
    rw [List.getElem?_map]
    cases hx : xs[i]? with
    | none =>
      rw [List.getElem?_eq_none_iff] at hx
      rw [List.getElem?_eq_none (by omega)]; rfl
    | some x =>
      obtain ⟨q, e1, e2, e3, _⟩ := hxq i x hx
      rw [e1]
      show some (rdK w x.kA x.kl x.kc, rdK w x.vA x.vl x.vc) = _
      rw [e2, e3]
  · obtain ⟨i, hi⟩ := List.getElem?_of_mem hx
    obtain ⟨q, _, e2, e3, a, b⟩ := hxq i x hi
    dsimp only
    rw [e2, e3]
    exact ⟨a, b⟩
theorem Within_spec (hn : 2 ^ 60 < n) (h : OwnE prEl 33 w base (.slice A l c) qs) (hl : l ≤ 2 ^ 20) (hf : Bv .u8 w B m1 d1 fr) (ht : Bv .u8 w C m2 d2 to) (back : Bool) :
    Rt (history_Within n [.slice A l c, .slice B m1 d1, .slice C m2 d2, .int .i64 (-1), .bool back] w) fun y => ∃ A' m c' w', y = ([.slice A' m c'], w') ∧ Kp w w' ∧ OwnE prEl 33 w' w.heap.size (.slice A' m c') (if back then (filt fr to qs).reverse else filt fr to qs) := by
  obtain ⟨xs, gv, hr, hmap, hst⟩ := kv_of h
  rw [history_Within_eq]
  refine Rt.fin (Rt.al fun w1 l1 k1 s1 => Rt.al fun w2 l2 k2 s2 => ?_)
  have k12 := k1.tr k2
  have hcx : Cx w2 w.heap.size w1.heap.size fr to := ⟨⟨_, _, _, l1.kp k2, hf.kp k12⟩, ⟨_, _, _, l2, ht.kp k12⟩⟩
  obtain ⟨_, e, A3, c3, w3, rfl, r3, k3⟩ := CloneP_spec (n := n) (hr.kp k12) hl
  refine Rt.cl e ?_
  (repeat (first | (with_reducible (first | refine Rt.fin ?_ | refine Rt.tL ?_ | refine Rt.tI ?_ | refine Rt.tB ?_ | refine Rt.tS ?_ | refine Rt.tP ?_ | refine Rt.tD ?_ | refine Rt.tM ?_ | refine Rt.tC ?_ | refine Rt.tN ?_ | refine Rt.tA ?_ | refine Rt.tG ?_ | refine Rt.tF ?_ | refine Rt.os ?_ | refine Rt.clS ?_ | refine Rt.jmN ?_ | refine Rt.jbN ?_ | refine Rt.jbE ?_)) | ((with_reducible (first | apply Rt.ld0 | apply Rt.ld1 | apply Rt.ld2 | apply Rt.ld3 | apply Rt.ld4 | apply Rt.ld5)); first | assumption | exact Lc.kp (by assumption) (by assumption)) | ((with_reducible apply Rt.ol); first | assumption | exact cell_kp (by assumption) (by assumption)) | ((with_reducible apply Rt.ckR); focus ((repeat (first | (with_reducible (first | refine Rt.fin ?_ | refine Rt.tL ?_ | refine Rt.tI ?_ | refine Rt.tB ?_ | refine Rt.tS ?_ | refine Rt.tP ?_ | refine Rt.tD ?_ | refine Rt.tM ?_ | refine Rt.tC ?_ | refine Rt.tN ?_ | refine Rt.tA ?_ | refine Rt.tG ?_ | refine Rt.tF ?_ | refine Rt.os ?_ | refine Rt.clS ?_ | refine Rt.jmN ?_ | refine Rt.jbN ?_ | refine Rt.jbE ?_)) | ((with_reducible (first | apply Rt.ld0 | apply Rt.ld1 | apply Rt.ld2 | apply Rt.ld3 | apply Rt.ld4 | apply Rt.ld5)); first | assumption | exact Lc.kp (by assumption) (by assumption)) | ((with_reducible apply Rt.ol); first | assumption | exact cell_kp (by assumption) (by assumption)))); exact Rt.some' rfl))))
  have hg : ∀ x ∈ xs, Bv .u8 w2 x.kA x.kl x.kc (gv x).1 := fun x hx => (hst x hx).1.out.kp k12
  have hg2 : ∀ x ∈ xs, Bv .u8 w2 x.vA x.vl x.vc (gv x).2 := fun x hx => (hst x hx).2.out.kp k12
  have hz12 := k12.size
  obtain ⟨_, e, w4, m4, rfl, r4, g4⟩ := DelF_spec (n := n) (gv := gv) hn hcx hg hl (Nat.le_refl _) k3 r3
  refine Rt.cl e ?_
  (repeat (first | (with_reducible (first | refine Rt.fin ?_ | refine Rt.tL ?_ | refine Rt.tI ?_ | refine Rt.tB ?_ | refine Rt.tS ?_ | refine Rt.tP ?_ | refine Rt.tD ?_ | refine Rt.tM ?_ | refine Rt.tC ?_ | refine Rt.tN ?_ | refine Rt.tA ?_ | refine Rt.tG ?_ | refine Rt.tF ?_ | refine Rt.os ?_ | refine Rt.clS ?_ | refine Rt.jmN ?_ | refine Rt.jbN ?_ | refine Rt.jbE ?_)) | ((with_reducible (first | apply Rt.ld0 | apply Rt.ld1 | apply Rt.ld2 | apply Rt.ld3 | apply Rt.ld4 | apply Rt.ld5)); first | assumption | exact Lc.kp (by assumption) (by assumption)) | ((with_reducible apply Rt.ol); first | assumption | exact cell_kp (by assumption) (by assumption)) | ((with_reducible apply Rt.ckR); focus ((repeat (first | (with_reducible (first | refine Rt.fin ?_ | refine Rt.tL ?_ | refine Rt.tI ?_ | refine Rt.tB ?_ | refine Rt.tS ?_ | refine Rt.tP ?_ | refine Rt.tD ?_ | refine Rt.tM ?_ | refine Rt.tC ?_ | refine Rt.tN ?_ | refine Rt.tA ?_ | refine Rt.tG ?_ | refine Rt.tF ?_ | refine Rt.os ?_ | refine Rt.clS ?_ | refine Rt.jmN ?_ | refine Rt.jbN ?_ | refine Rt.jbE ?_)) | ((with_reducible (first | apply Rt.ld0 | apply Rt.ld1 | apply Rt.ld2 | apply Rt.ld3 | apply Rt.ld4 | apply Rt.ld5)); first | assumption | exact Lc.kp (by assumption) (by assumption)) | ((with_reducible apply Rt.ol); first | assumption | exact cell_kp (by assumption) (by assumption)))); exact Rt.some' rfl))))
  have r3lt := r3.to.lt
  have r4lt := r4.to.lt
  have k24 : Kp w2 w4 := k3.tx g4 fun j hj => (r3lt j hj).1
  have hsm : (stay fr to gv xs).map gv = filt fr to qs := by
    rw [← hmap]
    unfold stay filt
    rw [List.filter_map]; rfl
  have hm4 : m4 ≤ 2 ^ 20 := by
    have := r4.len
    have h2 := stay_len (fr := fr) (to := to) (gv := gv) (xs := xs)
    have := hr.len
    omega
  refine Rt.jm (Rt.mono (Q' := fun y => ∃ w5, y = ⟨.norm, [.int .i64 (-1), .slice A3 m4 c3], w5⟩ ∧ Kp w2 w5 ∧ Row2 w5 w2.heap.size A3 m4 c3 (if back then (stay fr to gv xs).reverse else stay fr to gv xs)) ?_ ?_)
  · cases back with
    | false => exact Rt.cF rfl (Rt.some' ⟨w4, rfl, k24, r4⟩)
    | true =>
      obtain ⟨_, e, w5, rfl, r5, g5⟩ := Rev2_spec (n := n) hn r4 hm4
      refine Rt.cT rfl (Rt.cl e (Rt.tN ?_))
      exact Rt.some' ⟨w5, rfl, k24.tx g5 fun j hj => (r4lt j hj).1, r5⟩
  rintro _ ⟨w5, rfl, k5, r5⟩
  refine ⟨rfl, ?_⟩
  dsimp only
  (repeat (first | (with_reducible (first | refine Rt.fin ?_ | refine Rt.tL ?_ | refine Rt.tI ?_ | refine Rt.tB ?_ | refine Rt.tS ?_ | refine Rt.tP ?_ | refine Rt.tD ?_ | refine Rt.tM ?_ | refine Rt.tC ?_ | refine Rt.tN ?_ | refine Rt.tA ?_ | refine Rt.tG ?_ | refine Rt.tF ?_ | refine Rt.os ?_ | refine Rt.clS ?_ | refine Rt.jmN ?_ | refine Rt.jbN ?_ | refine Rt.jbE ?_)) | ((with_reducible (first | apply Rt.ld0 | apply Rt.ld1 | apply Rt.ld2 | apply Rt.ld3 | apply Rt.ld4 | apply Rt.ld5)); first | assumption | exact Lc.kp (by assumption) (by assumption)) | ((with_reducible apply Rt.ol); first | assumption | exact cell_kp (by assumption) (by assumption)) | ((with_reducible apply Rt.ckR); focus ((repeat (first | (with_reducible (first | refine Rt.fin ?_ | refine Rt.tL ?_ | refine Rt.tI ?_ | refine Rt.tB ?_ | refine Rt.tS ?_ | refine Rt.tP ?_ | refine Rt.tD ?_ | refine Rt.tM ?_ | refine Rt.tC ?_ | refine Rt.tN ?_ | refine Rt.tA ?_ | refine Rt.tG ?_ | refine Rt.tF ?_ | refine Rt.os ?_ | refine Rt.clS ?_ | refine Rt.jmN ?_ | refine Rt.jbN ?_ | refine Rt.jbE ?_)) | ((with_reducible (first | apply Rt.ld0 | apply Rt.ld1 | apply Rt.ld2 | apply Rt.ld3 | apply Rt.ld4 | apply Rt.ld5)); first | assumption | exact Lc.kp (by assumption) (by assumption)) | ((with_reducible apply Rt.ol); first | assumption | exact cell_kp (by assumption) (by assumption)))); exact Rt.some' rfl))))
  refine Rt.jm (Rt.cDF (by decide) (Rt.some' ⟨rfl, ?_⟩))
  dsimp only
  (repeat (first | (with_reducible (first | refine Rt.fin ?_ | refine Rt.tL ?_ | refine Rt.tI ?_ | refine Rt.tB ?_ | refine Rt.tS ?_ | refine Rt.tP ?_ | refine Rt.tD ?_ | refine Rt.tM ?_ | refine Rt.tC ?_ | refine Rt.tN ?_ | refine Rt.tA ?_ | refine Rt.tG ?_ | refine Rt.tF ?_ | refine Rt.os ?_ | refine Rt.clS ?_ | refine Rt.jmN ?_ | refine Rt.jbN ?_ | refine Rt.jbE ?_)) | ((with_reducible (first | apply Rt.ld0 | apply Rt.ld1 | apply Rt.ld2 | apply Rt.ld3 | apply Rt.ld4 | apply Rt.ld5)); first | assumption | exact Lc.kp (by assumption) (by assumption)) | ((with_reducible apply Rt.ol); first | assumption | exact cell_kp (by assumption) (by assumption)) | ((with_reducible apply Rt.ckR); focus ((repeat (first | (with_reducible (first | refine Rt.fin ?_ | refine Rt.tL ?_ | refine Rt.tI ?_ | refine Rt.tB ?_ | refine Rt.tS ?_ | refine Rt.tP ?_ | refine Rt.tD ?_ | refine Rt.tM ?_ | refine Rt.tC ?_ | refine Rt.tN ?_ | refine Rt.tA ?_ | refine Rt.tG ?_ | refine Rt.tF ?_ | refine Rt.os ?_ | refine Rt.clS ?_ | refine Rt.jmN ?_ | refine Rt.jbN ?_ | refine Rt.jbE ?_)) | ((with_reducible (first | apply Rt.ld0 | apply Rt.ld1 | apply Rt.ld2 | apply Rt.ld3 | apply Rt.ld4 | apply Rt.ld5)); first | assumption | exact Lc.kp (by assumption) (by assumption)) | ((with_reducible apply Rt.ol); first | assumption | exact cell_kp (by assumption) (by assumption)))); exact Rt.some' rfl))))
  have r5lt := r5.to.lt
  refine Rt.some' ⟨rfl, A3, m4, c3, w5, rfl, k12.tr k5, ?_⟩
  have hsub : ∀ x ∈ (if back then (stay fr to gv xs).reverse else stay fr to gv xs), x ∈ xs := fun x hx => by
    have : x ∈ stay fr to gv xs := by
      cases back with
      | false => exact hx
      | true => exact List.mem_reverse.1 hx
    exact (List.mem_filter.1 this).1
  have hown := (r5.ownKV gv fun y hy => ⟨fun w6 g6 => (hg y (hsub y hy)).kp (k5.tx g6 fun j hj => (r5lt j hj).1), fun w6 g6 => (hg2 y (hsub y hy)).kp (k5.tx g6 fun j hj => (r5lt j hj).1)⟩).mono hz12
  have hmm : (if back then (stay fr to gv xs).reverse else stay fr to gv xs).map gv = if back then (filt fr to qs).reverse else filt fr to qs := by
    cases back with
    | false => exact hsm
    | true =>
      show ((stay fr to gv xs).reverse).map gv = (filt fr to qs).reverse
      rw [List.map_reverse, hsm]
  rw [hmm] at hown
  exact hown
theorem Scan_spec (hn : 2 ^ 60 < n) (h : Hm w base mb X) (hF : Fit X) (hvl : ∀ k v, stF X k = some v → v.length ≤ 2 ^ 20) (hcard : ∀ qs : List KV, (qs.map Prod.fst).Nodup → (∀ q ∈ qs, Bytes q.1 ∧ stF X q.1 = some q.2) → qs.length ≤ 511) (hf : Bv .u8 w B m1 d1 fr) (ht : Bv .u8 w C m2 d2 to) (back : Bool) :
    Rt (history_Map_Scan n [pt mb, .slice B m1 d1, .slice C m2 d2, .int .i64 (-1), .int .i64 (-1), .bool back] w) fun y => ∃ A' m c' w' qs, y = ([.slice A' m c'], w') ∧ Kp w w' ∧ Told (stF X) qs ∧ OwnE prEl 33 w' w.heap.size (.slice A' m c') (if back then (filt fr to qs).reverse else filt fr to qs) := by
  rw [history_Map_Scan_eq]
  obtain ⟨_, e, w1, rfl, k1, hM⟩ := state_spec (n := n) hn h hF
  refine Rt.fin (Rt.cl e ?_)
  (repeat (first | (with_reducible (first | refine Rt.fin ?_ | refine Rt.tL ?_ | refine Rt.tI ?_ | refine Rt.tB ?_ | refine Rt.tS ?_ | refine Rt.tP ?_ | refine Rt.tD ?_ | refine Rt.tM ?_ | refine Rt.tC ?_ | refine Rt.tN ?_ | refine Rt.tA ?_ | refine Rt.tG ?_ | refine Rt.tF ?_ | refine Rt.os ?_ | refine Rt.clS ?_ | refine Rt.jmN ?_ | refine Rt.jbN ?_ | refine Rt.jbE ?_)) | ((with_reducible (first | apply Rt.ld0 | apply Rt.ld1 | apply Rt.ld2 | apply Rt.ld3 | apply Rt.ld4 | apply Rt.ld5)); first | assumption | exact Lc.kp (by assumption) (by assumption)) | ((with_reducible apply Rt.ol); first | assumption | exact cell_kp (by assumption) (by assumption)) | ((with_reducible apply Rt.ckR); focus ((repeat (first | (with_reducible (first | refine Rt.fin ?_ | refine Rt.tL ?_ | refine Rt.tI ?_ | refine Rt.tB ?_ | refine Rt.tS ?_ | refine Rt.tP ?_ | refine Rt.tD ?_ | refine Rt.tM ?_ | refine Rt.tC ?_ | refine Rt.tN ?_ | refine Rt.tA ?_ | refine Rt.tG ?_ | refine Rt.tF ?_ | refine Rt.os ?_ | refine Rt.clS ?_ | refine Rt.jmN ?_ | refine Rt.jbN ?_ | refine Rt.jbE ?_)) | ((with_reducible (first | apply Rt.ld0 | apply Rt.ld1 | apply Rt.ld2 | apply Rt.ld3 | apply Rt.ld4 | apply Rt.ld5)); first | assumption | exact Lc.kp (by assumption) (by assumption)) | ((with_reducible apply Rt.ol); first | assumption | exact cell_kp (by assumption) (by assumption)))); exact Rt.some' rfl))))
  obtain ⟨_, e, A2, c2, w2, qs, rfl, k2, o2, hT⟩ := pairs_spec (n := n) hn hvl hM k1 (Nat.le_refl _) hcard
  refine Rt.cl e ?_
  (repeat (first | (with_reducible (first | refine Rt.fin ?_ | refine Rt.tL ?_ | refine Rt.tI ?_ | refine Rt.tB ?_ | refine Rt.tS ?_ | refine Rt.tP ?_ | refine Rt.tD ?_ | refine Rt.tM ?_ | refine Rt.tC ?_ | refine Rt.tN ?_ | refine Rt.tA ?_ | refine Rt.tG ?_ | refine Rt.tF ?_ | refine Rt.os ?_ | refine Rt.clS ?_ | refine Rt.jmN ?_ | refine Rt.jbN ?_ | refine Rt.jbE ?_)) | ((with_reducible (first | apply Rt.ld0 | apply Rt.ld1 | apply Rt.ld2 | apply Rt.ld3 | apply Rt.ld4 | apply Rt.ld5)); first | assumption | exact Lc.kp (by assumption) (by assumption)) | ((with_reducible apply Rt.ol); first | assumption | exact cell_kp (by assumption) (by assumption)) | ((with_reducible apply Rt.ckR); focus ((repeat (first | (with_reducible (first | refine Rt.fin ?_ | refine Rt.tL ?_ | refine Rt.tI ?_ | refine Rt.tB ?_ | refine Rt.tS ?_ | refine Rt.tP ?_ | refine Rt.tD ?_ | refine Rt.tM ?_ | refine Rt.tC ?_ | refine Rt.tN ?_ | refine Rt.tA ?_ | refine Rt.tG ?_ | refine Rt.tF ?_ | refine Rt.os ?_ | refine Rt.clS ?_ | refine Rt.jmN ?_ | refine Rt.jbN ?_ | refine Rt.jbE ?_)) | ((with_reducible (first | apply Rt.ld0 | apply Rt.ld1 | apply Rt.ld2 | apply Rt.ld3 | apply Rt.ld4 | apply Rt.ld5)); first | assumption | exact Lc.kp (by assumption) (by assumption)) | ((with_reducible apply Rt.ol); first | assumption | exact cell_kp (by assumption) (by assumption)))); exact Rt.some' rfl))))
  have k12 := k1.tr k2
  have hlen : qs.length ≤ 511 := hcard qs (List.pairwise_map.2 (hT.up.imp fun {a b} hab e => by unfold Lt at hab; rw [e, bl_irr] at hab; cases hab)) hT.mem
  obtain ⟨_, e, A3, m3, c3, w3, rfl, k3, o3⟩ := Within_spec (n := n) hn o2 (by omega) (hf.kp k12) (ht.kp k12) back
  refine Rt.cl e ?_
  (repeat (first | (with_reducible (first | refine Rt.fin ?_ | refine Rt.tL ?_ | refine Rt.tI ?_ | refine Rt.tB ?_ | refine Rt.tS ?_ | refine Rt.tP ?_ | refine Rt.tD ?_ | refine Rt.tM ?_ | refine Rt.tC ?_ | refine Rt.tN ?_ | refine Rt.tA ?_ | refine Rt.tG ?_ | refine Rt.tF ?_ | refine Rt.os ?_ | refine Rt.clS ?_ | refine Rt.jmN ?_ | refine Rt.jbN ?_ | refine Rt.jbE ?_)) | ((with_reducible (first | apply Rt.ld0 | apply Rt.ld1 | apply Rt.ld2 | apply Rt.ld3 | apply Rt.ld4 | apply Rt.ld5)); first | assumption | exact Lc.kp (by assumption) (by assumption)) | ((with_reducible apply Rt.ol); first | assumption | exact cell_kp (by assumption) (by assumption)) | ((with_reducible apply Rt.ckR); focus ((repeat (first | (with_reducible (first | refine Rt.fin ?_ | refine Rt.tL ?_ | refine Rt.tI ?_ | refine Rt.tB ?_ | refine Rt.tS ?_ | refine Rt.tP ?_ | refine Rt.tD ?_ | refine Rt.tM ?_ | refine Rt.tC ?_ | refine Rt.tN ?_ | refine Rt.tA ?_ | refine Rt.tG ?_ | refine Rt.tF ?_ | refine Rt.os ?_ | refine Rt.clS ?_ | refine Rt.jmN ?_ | refine Rt.jbN ?_ | refine Rt.jbE ?_)) | ((with_reducible (first | apply Rt.ld0 | apply Rt.ld1 | apply Rt.ld2 | apply Rt.ld3 | apply Rt.ld4 | apply Rt.ld5)); first | assumption | exact Lc.kp (by assumption) (by assumption)) | ((with_reducible apply Rt.ol); first | assumption | exact cell_kp (by assumption) (by assumption)))); exact Rt.some' rfl))))
  exact Rt.some' ⟨rfl, A3, m3, c3, w3, qs, rfl, k12.tr k3, hT, o3.mono k12.size⟩
end
end Go.Proofs.Ytdcdgmiojlldaaa.Hi
