/- A sorted buffer: how it turns. -/
import Derived.Test.YtoilmnplocfipaaS2
namespace Go.Proofs.Ytoilmnplocfipaa.Sk
open Go Big Go.RowKit Go.IntWalk Ik
set_option linter.unusedVariables false
set_option linter.unusedSimpArgs false
section
variable {α : Type} {Q : α → Prop} {n base b : Nat} {w w' w0 : World} {S T R : Nat → Prop} {s : St} {A : Option Addr} {c : Nat} {nv : List Nw} {ord : List Nat} {k : Key}
/-- Other parts stay while a block turns that is none of them. -/
theorem SkV.turn (h : SkV w base b R A c nv s) {s' : St} {j0 : Nat} (hg : Gx (fun j => j = j0) w w') (hlc : Lc w' b (blk s' A nv.length c)) (hf : s'.first.length = 12) (hl : s'.nodes.length = s.nodes.length) (hrow : ¬ On (.slice A nv.length c) j0) (hR : ¬ R j0)
    (hnd : ∀ (i : Nat) (x' : Nd) (v : Nw), s'.nodes[i]? = some x' → nv[i]? = some v → ∃ x, s.nodes[i]? = some x ∧ x'.e = x.e ∧ Own .i64 3 w' base (.slice (some ⟨v.g, 0, none⟩) v.nl v.nc) (x'.next.map en)) : SkV w' base b R A c nv s' := by
  refine ⟨h.lo, hf, hlc, ?_, h.nrow, h.len.trans hl.symm, fun i x' v hx hv => ?_, h.inj, fun j hj => ⟨(h.rlo j hj).1, Nat.lt_of_lt_of_le (h.rlo j hj).2 hg.size⟩, h.rb, h.rrow⟩
  · obtain ⟨vs, h1, h2⟩ := h.row
    refine ⟨vs, ⟨h1.1, h1.2.imp id fun ⟨g, cap, cur, e1, e2, e3, e4⟩ => ⟨g, cap, cur, e1, e2, by rw [hg.block g (Array.getElem?_eq_some_iff.1 e3).1 (fun e => hrow (by rw [← e, e1]; rfl))]; exact e3, e4⟩⟩, fun w2 _ => ?_⟩
    exact rows_free h2.out
  · obtain ⟨x, hx', he, ho⟩ := hnd i x' v hx hv
    have hd := h.nd i x v hx' hv
    refine ⟨?_, ho, hd.nb, hd.nrow, hd.nR⟩
    rw [he]
    exact hd.ent.on (hg.wide fun j _ hj hRj => hR (hj ▸ hRj))
theorem Rt.setFirst (h : SkV w base b R A c nv s) {j : Nat} (hj : j < 12) {v : Option Nat} {f : World → Option α} (hf : ∀ w1, SkV w1 base b R A c nv (setAft s none j v) → Gx (fun k => k = b) w w1 → Rt (f w1) Q) : Rt (stC w ⟨b, j, none⟩ (.int .i64 (en v)) f) Q := by
  have hF := h.fst
  refine Rt.stb h.lc (by rw [blk_len s _ _ _ hF]; omega) fun w1 l1 g1 => hf w1 (h.turn g1 ?_ ?_ rfl h.nrow h.rb fun i x v hx hv => ?_) g1
  · have e : (blk s A nv.length c).set j (.int .i64 (en v)) = blk (setAft s none j v) A nv.length c := by
      show ((s.first.map fun a => Value.int .i64 (en a)) ++ [Value.slice A nv.length c, Value.int .i64 s.bytes]).set j (Value.int .i64 (en v)) = ((s.first.set j v).map fun a => Value.int .i64 (en a)) ++ [Value.slice A nv.length c, Value.int .i64 s.bytes]
      rw [List.set_append_left _ _ (by rw [List.length_map]; omega), List.map_set]
    rw [← e]; exact l1
  · show (s.first.set j v).length = 12
    rw [List.length_set]; exact hF
  · have hd := h.nd i x v hx hv
    refine ⟨x, hx, rfl, hd.own.gx g1 fun j hj e => hd.nb ?_⟩
    have hj : some v.g = some j := hj
    injection hj with hj
    rw [hj, e]
theorem Rt.setNext (h : SkV w base b R A c nv s) {q : Nat} {x : Nd} {u : Nw} (hx : s.nodes[q]? = some x) (hu : nv[q]? = some u) {j : Nat} (hj : j < x.next.length) {v : Option Nat} {f : World → Option α}
    (hf : ∀ w1, SkV w1 base b R A c nv (setAft s (some q) j v) → Gx (fun k => k = u.g) w w1 → Rt (f w1) Q) : Rt (ixA (some ⟨u.g, 0, none⟩) u.nl (j : Int) 1 fun ad => stC w ad (.int .i64 (en v)) f) Q := by
  have hd := h.nd q x u hx hu
  obtain ⟨hl, hs⟩ := hd.nxt
  obtain ⟨a, w1, ha, hb, hw, ho, hg, hrun⟩ := hd.own.store (i := (j : Int)) (by omega) (by omega) (en v)
  injection ha with ha
  subst ha
  rw [hrun]
  have g1 : Gx (fun k => k = u.g) w w1 := (Gx.of_grown hg).wide fun k _ e => by
    have e : some u.g = some k := e
    injection e with e; exact e.symm
  rw [Int.toNat_natCast] at ho
  have hsn : (setAft s (some q) j v).nodes = s.nodes.set q { x with next := x.next.set j v } := by simp only [setAft, hx]
  refine hf w1 (h.turn g1 ?_ ?_ ?_ hd.nrow hd.nR fun i y' v' hy hv' => ?_) g1
  · have e : blk (setAft s (some q) j v) A nv.length c = blk s A nv.length c := by simp only [setAft, hx, blk]
    rw [e]; exact h.lc.gx g1 fun e => hd.nb e.symm
  · simp only [setAft, hx]; exact h.fst
  · rw [hsn, List.length_set]
  · rw [hsn] at hy
    by_cases hi : q = i
    · subst hi
      rw [List.getElem?_set_self (List.getElem?_eq_some_iff.1 hx).1] at hy
      injection hy with hy
      subst hy
      rw [hu] at hv'
      injection hv' with hv'
      subst hv'
      refine ⟨x, hx, rfl, ?_⟩
      show Own .i64 3 w1 base _ ((x.next.set j v).map en)
      rw [List.map_set]; exact ho
    · rw [List.getElem?_set_ne hi] at hy
      have hd' := h.nd i y' v' hy hv'
      refine ⟨y', hy, rfl, hd'.own.gx g1 fun k hk e => hi ?_⟩
      have hk : some v'.g = some k := hk
      injection hk with hk
      exact h.inj q i u v' hu hv' (by rw [hk, e])
theorem own_spec {K V : Option Addr} {kl kc vl vc : Nat} {ks kk : Int} {x : En} (hx : EnV w K kl kc ks kk V vl vc x) (hl : kl ≤ 2 ^ 38) (hm : vl ≤ 2 ^ 38) : Rt (skip_own n [ev K kl kc ks kk V vl vc] w) (REn x w) := by
  have h1 := hx.seq
  have h2 := hx.kind
  have hkl := hx.key.len
  have hvl := hx.val.len
  subst h1 h2 hkl hvl
  rw [skip_own_eq]
  refine Rt.fin (Rt.al fun w1 l1 k1 _ => Rt.al fun w2 l2 k2 _ => ?_)
  have l1 := (l1.kp k2).dr'
  have l2 := l2.dr'
  have k12 := (k1.tr k2).dr
  have hd2 : w2.drew.heap.size = w2.heap.size := rfl
  (repeat (first | (with_reducible (first | refine Rt.fin ?_ | refine Rt.tL ?_ | refine Rt.tI ?_ | refine Rt.tB ?_ | refine Rt.tS ?_ | refine Rt.tP ?_ | refine Rt.tD ?_ | refine Rt.tM ?_ | refine Rt.tC ?_ | refine Rt.tN ?_ | refine Rt.tA ?_ | refine Rt.tG ?_ | refine Rt.tF ?_ | refine Rt.os ?_ | refine Rt.clS ?_ | refine Rt.jmN ?_ | refine Rt.jbN ?_ | refine Rt.jbE ?_)) | ((with_reducible (first | apply Rt.ld0 | apply Rt.ld1 | apply Rt.ld2 | apply Rt.ld3 | apply Rt.ld4 | apply Rt.ld5)); first | assumption | exact Lc.kp (by assumption) (by assumption)) | ((with_reducible apply Rt.ol); first | assumption | exact cell_kp (by assumption) (by assumption)) | ((with_reducible apply Rt.ckR); focus ((repeat (first | (with_reducible (first | refine Rt.fin ?_ | refine Rt.tL ?_ | refine Rt.tI ?_ | refine Rt.tB ?_ | refine Rt.tS ?_ | refine Rt.tP ?_ | refine Rt.tD ?_ | refine Rt.tM ?_ | refine Rt.tC ?_ | refine Rt.tN ?_ | refine Rt.tA ?_ | refine Rt.tG ?_ | refine Rt.tF ?_ | refine Rt.os ?_ | refine Rt.clS ?_ | refine Rt.jmN ?_ | refine Rt.jbN ?_ | refine Rt.jbE ?_)) | ((with_reducible (first | apply Rt.ld0 | apply Rt.ld1 | apply Rt.ld2 | apply Rt.ld3 | apply Rt.ld4 | apply Rt.ld5)); first | assumption | exact Lc.kp (by assumption) (by assumption)) | ((with_reducible apply Rt.ol); first | assumption | exact cell_kp (by assumption) (by assumption)))); exact Rt.some' rfl))))
  refine Rt.cO (Clone_spec (hx.key.kp k12) hl) fun A3 c3 w3 o3 k3 => ?_
  have l13 := l1.kp k3
  have k13 := k12.tr k3
  (repeat (first | (with_reducible (first | refine Rt.fin ?_ | refine Rt.tL ?_ | refine Rt.tI ?_ | refine Rt.tB ?_ | refine Rt.tS ?_ | refine Rt.tP ?_ | refine Rt.tD ?_ | refine Rt.tM ?_ | refine Rt.tC ?_ | refine Rt.tN ?_ | refine Rt.tA ?_ | refine Rt.tG ?_ | refine Rt.tF ?_ | refine Rt.os ?_ | refine Rt.clS ?_ | refine Rt.jmN ?_ | refine Rt.jbN ?_ | refine Rt.jbE ?_)) | ((with_reducible (first | apply Rt.ld0 | apply Rt.ld1 | apply Rt.ld2 | apply Rt.ld3 | apply Rt.ld4 | apply Rt.ld5)); first | assumption | exact Lc.kp (by assumption) (by assumption)) | ((with_reducible apply Rt.ol); first | assumption | exact cell_kp (by assumption) (by assumption)) | ((with_reducible apply Rt.ckR); focus ((repeat (first | (with_reducible (first | refine Rt.fin ?_ | refine Rt.tL ?_ | refine Rt.tI ?_ | refine Rt.tB ?_ | refine Rt.tS ?_ | refine Rt.tP ?_ | refine Rt.tD ?_ | refine Rt.tM ?_ | refine Rt.tC ?_ | refine Rt.tN ?_ | refine Rt.tA ?_ | refine Rt.tG ?_ | refine Rt.tF ?_ | refine Rt.os ?_ | refine Rt.clS ?_ | refine Rt.jmN ?_ | refine Rt.jbN ?_ | refine Rt.jbE ?_)) | ((with_reducible (first | apply Rt.ld0 | apply Rt.ld1 | apply Rt.ld2 | apply Rt.ld3 | apply Rt.ld4 | apply Rt.ld5)); first | assumption | exact Lc.kp (by assumption) (by assumption)) | ((with_reducible apply Rt.ol); first | assumption | exact cell_kp (by assumption) (by assumption)))); exact Rt.some' rfl))))
  refine Rt.cO (Clone_spec (hx.val.kp k13) hm) fun A5 c5 w5 o5 k5 => ?_
  have k15 := k13.tr k5
  have hl1 := l1.lt
  have hl2 := l2.lt
  have hk1 := k1.size
  have hk2 := k2.size
  have hk3 := k3.size
  have hk5 := k5.size
  have lt3 := o3.lt
  refine Rt.st0 (l13.kp k5) fun w6 l6 g6 => Rt.st3 l6 fun w7 l7 g7 => ?_
  have g67 := g6.tr g7
  have k17 := k15.tx g67 fun j hj => by omega
  have l27 := ((l2.kp k3).kp k5).gx g67 (by intro h; simp at *; omega)
  have o3 := (o3.kp k5).gx g67 fun j hj e => by have := (o3.lt j hj).1; omega
  have o5 := o5.gx g67 fun j hj e => by have := (o5.lt j hj).1; omega
  (repeat (first | (with_reducible (first | refine Rt.fin ?_ | refine Rt.tL ?_ | refine Rt.tI ?_ | refine Rt.tB ?_ | refine Rt.tS ?_ | refine Rt.tP ?_ | refine Rt.tD ?_ | refine Rt.tM ?_ | refine Rt.tC ?_ | refine Rt.tN ?_ | refine Rt.tA ?_ | refine Rt.tG ?_ | refine Rt.tF ?_ | refine Rt.os ?_ | refine Rt.clS ?_ | refine Rt.jmN ?_ | refine Rt.jbN ?_ | refine Rt.jbE ?_)) | ((with_reducible (first | apply Rt.ld0 | apply Rt.ld1 | apply Rt.ld2 | apply Rt.ld3 | apply Rt.ld4 | apply Rt.ld5)); first | assumption | exact Lc.kp (by assumption) (by assumption)) | ((with_reducible apply Rt.ol); first | assumption | exact cell_kp (by assumption) (by assumption)) | ((with_reducible apply Rt.ckR); focus ((repeat (first | (with_reducible (first | refine Rt.fin ?_ | refine Rt.tL ?_ | refine Rt.tI ?_ | refine Rt.tB ?_ | refine Rt.tS ?_ | refine Rt.tP ?_ | refine Rt.tD ?_ | refine Rt.tM ?_ | refine Rt.tC ?_ | refine Rt.tN ?_ | refine Rt.tA ?_ | refine Rt.tG ?_ | refine Rt.tF ?_ | refine Rt.os ?_ | refine Rt.clS ?_ | refine Rt.jmN ?_ | refine Rt.jbN ?_ | refine Rt.jbE ?_)) | ((with_reducible (first | apply Rt.ld0 | apply Rt.ld1 | apply Rt.ld2 | apply Rt.ld3 | apply Rt.ld4 | apply Rt.ld5)); first | assumption | exact Lc.kp (by assumption) (by assumption)) | ((with_reducible apply Rt.ol); first | assumption | exact cell_kp (by assumption) (by assumption)))); exact Rt.some' rfl))))
  refine Rt.st0 l27 fun w8 l8 g8 => Rt.st1 l8 fun w9 l9 g9 => Rt.st2 l9 fun w10 l10 g10 => Rt.st3 l10 fun w11 l11 g11 => ?_
  (repeat (first | (with_reducible (first | refine Rt.fin ?_ | refine Rt.tL ?_ | refine Rt.tI ?_ | refine Rt.tB ?_ | refine Rt.tS ?_ | refine Rt.tP ?_ | refine Rt.tD ?_ | refine Rt.tM ?_ | refine Rt.tC ?_ | refine Rt.tN ?_ | refine Rt.tA ?_ | refine Rt.tG ?_ | refine Rt.tF ?_ | refine Rt.os ?_ | refine Rt.clS ?_ | refine Rt.jmN ?_ | refine Rt.jbN ?_ | refine Rt.jbE ?_)) | ((with_reducible (first | apply Rt.ld0 | apply Rt.ld1 | apply Rt.ld2 | apply Rt.ld3 | apply Rt.ld4 | apply Rt.ld5)); first | assumption | exact Lc.kp (by assumption) (by assumption)) | ((with_reducible apply Rt.ol); first | assumption | exact cell_kp (by assumption) (by assumption)) | ((with_reducible apply Rt.ckR); focus ((repeat (first | (with_reducible (first | refine Rt.fin ?_ | refine Rt.tL ?_ | refine Rt.tI ?_ | refine Rt.tB ?_ | refine Rt.tS ?_ | refine Rt.tP ?_ | refine Rt.tD ?_ | refine Rt.tM ?_ | refine Rt.tC ?_ | refine Rt.tN ?_ | refine Rt.tA ?_ | refine Rt.tG ?_ | refine Rt.tF ?_ | refine Rt.os ?_ | refine Rt.clS ?_ | refine Rt.jmN ?_ | refine Rt.jbN ?_ | refine Rt.jbE ?_)) | ((with_reducible (first | apply Rt.ld0 | apply Rt.ld1 | apply Rt.ld2 | apply Rt.ld3 | apply Rt.ld4 | apply Rt.ld5)); first | assumption | exact Lc.kp (by assumption) (by assumption)) | ((with_reducible apply Rt.ol); first | assumption | exact cell_kp (by assumption) (by assumption)))); exact Rt.some' rfl))))
  have g := ((g8.tr g9).tr g10).tr g11
  refine Rt.some' ⟨rfl, A3, c3, A5, c5, w11, rfl, ?_, ?_, ?_, k17.tx g fun j hj => by omega⟩
  · exact (o3.gx g fun j hj e => by have := (o3.lt j hj).1; omega).mono (by omega)
  · exact (o5.gx g fun j hj e => by have := (o5.lt j hj).1; omega).mono (by omega)
  · intro j h3 h5
    have a3 := (lt3 j h3).2
    have := (o5.lt j h5).1
    omega
end
end Go.Proofs.Ytoilmnplocfipaa.Sk
