/- A sorted buffer: an entry is linked in, level by level. -/
import Derived.Test.YtoilmnplocfipaaS4
namespace Go.Proofs.Ytoilmnplocfipaa.Sk
open Go Big Go.RowKit Go.IntWalk Ik
set_option linter.unusedVariables false
set_option linter.unusedSimpArgs false
def nxs (f : Nat → Int) (h i : Nat) : List Int := (List.range i).map f ++ List.replicate (h - i) 0
theorem nxs_len {f : Nat → Int} {h i : Nat} (hi : i ≤ h) : (nxs f h i).length = h := by simp [nxs]; omega
theorem nxs_set {f : Nat → Int} {h i : Nat} (hi : i < h) : (nxs f h i).set i (f i) = nxs f h (i + 1) := by
  unfold nxs
  rw [List.set_append_right _ _ (by simp), List.length_map, List.length_range, Nat.sub_self, List.range_succ, List.map_append, List.append_assoc]
  congr 1
  rw [show h - i = (h - (i + 1)) + 1 by omega, List.replicate_succ]
  rfl
section
variable {α : Type} {Q : α → Prop} {n base b : Nat} {w w' w0 : World} {S T R : Nat → Prop} {s : St} {A : Option Addr} {c : Nat} {nv : List Nw} {ord : List Nat} {k : Key}
theorem ins_l0 {p : Nat → Option Nat} {h z g nb b0 bp : Nat} {E0 : List Value} {X0 X1 X2 X3 : Value} (hi : Inv s ord) (hp : ∀ j, j < 12 → p j = pth s ord k j) (hh : h ≤ 12) (hzb : ∀ j, SkS b R A c nv j → j < z) (hg : z ≤ g) (hnb : z ≤ nb) (hb0 : z ≤ b0) (hbp : z ≤ bp) (hgn : g ≠ nb) (hgp : g ≠ bp) (hg0 : g ≠ b0) :
    ∀ (f i m : Nat) (w' : World), i + f = h → f < m → SkV w' base b R A c nv (insS s p s.nodes.length i) → Lc w' bp (v12 fun j => en (p j)) → Lc w' b0 E0 → Lc w' nb [X0, X1, X2, X3, .slice (some ⟨g, 0, none⟩) h h] →
      Own .i64 3 w' z (.slice (some ⟨g, 0, none⟩) h h) (nxs (fun j => en (Sk.hd ((chain s ord j).dropWhile (bel s k)))) h i) →
      Rt (skip_List_Insert.l0 n m (some ⟨b, 0, none⟩) (h : Int) ⟨b0, 0, none⟩ ⟨bp, 0, none⟩ ⟨nb, 0, none⟩ (h : Int) (i : Int) w') fun r => r.ex = .exit 0 ∧ r.vals = [.pointer (some ⟨b, 0, none⟩), .int .i64 (h : Int), .pointer (some ⟨b0, 0, none⟩), .pointer (some ⟨nb, 0, none⟩)] ∧
        Gx (fun j => SkS b R A c nv j ∨ j = g) w' r.w ∧ SkV r.w base b R A c nv (insS s p s.nodes.length h) ∧ Lc r.w b0 E0 ∧ Lc r.w nb [X0, X1, X2, X3, .slice (some ⟨g, 0, none⟩) h h] ∧ Own .i64 3 r.w z (.slice (some ⟨g, 0, none⟩) h h) (nxs (fun j => en (Sk.hd ((chain s ord j).dropWhile (bel s k)))) h h) := by
  intro f
  induction f with
  | zero =>
    intro i m w' hif hm hS lp l0 ln ho
    obtain ⟨m, rfl⟩ : ∃ m', m = m' + 1 := ⟨m - 1, by omega⟩
    obtain rfl : i = h := by omega
    rw [skip_List_Insert.l0_succ]
    exact Rt.cDF (by omega) (Rt.some' ⟨rfl, rfl, Gx.rfl' _ _, hS, l0, ln, ho⟩)
  | succ f ih =>
    intro i m w' hif hm hS lp l0 ln ho
    obtain ⟨m, rfl⟩ : ∃ m', m = m' + 1 := ⟨m - 1, by omega⟩
    rw [skip_List_Insert.l0_succ]
    have hpv : ∀ {w : World}, Lc w bp (v12 fun j => en (p j)) → w.cell? ⟨bp, i, none⟩ = some (.int .i64 (en (p i))) := fun hl => by
      rw [hl.ld]
      have : i < 12 := by omega
      rcases (by omega : i = 0 ∨ i = 1 ∨ i = 2 ∨ i = 3 ∨ i = 4 ∨ i = 5 ∨ i = 6 ∨ i = 7 ∨ i = 8 ∨ i = 9 ∨ i = 10 ∨ i = 11) with rfl | rfl | rfl | rfl | rfl | rfl | rfl | rfl | rfl | rfl | rfl | rfl <;> rfl
    have hSd := hS.gx (T := fun _ => False) ((Kp.rfl' w').dr.gx) fun _ _ h => h
    have hSk : Sk w'.drew base b (SkS b R A c nv) (insS s p s.nodes.length i) := ⟨R, A, c, nv, hSd, fun _ => Iff.rfl⟩
    refine Rt.cDT (by omega) (Rt.jb (Rt.ldn ln.dr' rfl (Rt.tL (Rt.ixRb (by omega) (by omega) ?_))))
    rw [Int.toNat_natCast]
    refine Rt.ol (hpv lp.dr') (Rt.tI ?_)
    have haft : Aft (insS s p s.nodes.length i) (p i) i (Sk.hd ((chain s ord i).dropWhile (bel s k))) := by
      have key : ∀ j, j < 12 → Aft s (p j) j (Sk.hd ((chain s ord j).dropWhile (bel s k))) := fun j hj => by
        have h1 := hi.lnk j hj
        rw [← List.takeWhile_append_dropWhile (p := bel s k) (l := chain s ord j)] at h1
        rw [hp j hj]
        exact h1.behind.hd
      rw [insS_aft (fun j' hj' => ⟨_, key j' (by omega)⟩)]
      exact .inr ⟨fun h => by omega, key i (by omega)⟩
    obtain ⟨_, e, rfl⟩ := after_spec (n := n) hSk haft (by omega)
    refine Rt.cl e ?_
    have lnd := ln.dr'
    (repeat (first | (with_reducible (first | refine Rt.fin ?_ | refine Rt.tL ?_ | refine Rt.tI ?_ | refine Rt.tB ?_ | refine Rt.tS ?_ | refine Rt.tP ?_ | refine Rt.tD ?_ | refine Rt.tM ?_ | refine Rt.tC ?_ | refine Rt.tN ?_ | refine Rt.tA ?_ | refine Rt.tG ?_ | refine Rt.tF ?_ | refine Rt.os ?_ | refine Rt.clS ?_ | refine Rt.jmN ?_ | refine Rt.jbN ?_ | refine Rt.jbE ?_)) | ((with_reducible (first | apply Rt.ld0 | apply Rt.ld1 | apply Rt.ld2 | apply Rt.ld3 | apply Rt.ld4 | apply Rt.ld5)); first | assumption | exact Lc.kp (by assumption) (by assumption)) | ((with_reducible apply Rt.ol); first | assumption | exact cell_kp (by assumption) (by assumption)) | ((with_reducible apply Rt.ckR); focus ((repeat (first | (with_reducible (first | refine Rt.fin ?_ | refine Rt.tL ?_ | refine Rt.tI ?_ | refine Rt.tB ?_ | refine Rt.tS ?_ | refine Rt.tP ?_ | refine Rt.tD ?_ | refine Rt.tM ?_ | refine Rt.tC ?_ | refine Rt.tN ?_ | refine Rt.tA ?_ | refine Rt.tG ?_ | refine Rt.tF ?_ | refine Rt.os ?_ | refine Rt.clS ?_ | refine Rt.jmN ?_ | refine Rt.jbN ?_ | refine Rt.jbE ?_)) | ((with_reducible (first | apply Rt.ld0 | apply Rt.ld1 | apply Rt.ld2 | apply Rt.ld3 | apply Rt.ld4 | apply Rt.ld5)); first | assumption | exact Lc.kp (by assumption) (by assumption)) | ((with_reducible apply Rt.ol); first | assumption | exact cell_kp (by assumption) (by assumption)))); exact Rt.some' rfl))))
    obtain ⟨a, w1, ha1, hb1, hw1, ho1, hg1, hrun⟩ := ho.dr.store (i := (i : Int)) (by omega) (by omega) (en (Sk.hd ((chain s ord i).dropWhile (bel s k))))
    injection ha1 with ha1
    subst ha1
    rw [hrun]
    have g1 : Gx (fun j => j = g) w'.drew w1 := (Gx.of_grown hg1).wide fun k _ e => by
      have e : some g = some k := e
      injection e with e; exact e.symm
    rw [Int.toNat_natCast, nxs_set (by omega)] at ho1
    have hS1 := hSd.gx g1 fun j hj e => by have := hzb j hj; omega
    have lp1 := lp.dr'.gx g1 (by omega)
    have l01 := l0.dr'.gx g1 (by omega)
    have ln1 := ln.dr'.gx g1 (by omega)
    have gd : Gx (fun j => SkS b R A c nv j ∨ j = g) w' w1 := ((Kp.rfl' w').dr.gx).tr (g1.wide fun j _ e => .inr e)
    -- one level is linked
    have go : ∀ w2, SkV w2 base b R A c nv (insS s p s.nodes.length (i + 1)) → Gx (fun j => SkS b R A c nv j) w1 w2 → Rt (some (⟨.norm, [.pointer (some ⟨b, 0, none⟩), .int .i64 (h : Int), .pointer (some ⟨b0, 0, none⟩), .pointer (some ⟨bp, 0, none⟩), .pointer (some ⟨nb, 0, none⟩), .int .i64 (h : Int), .int .i64 (i : Int)], w2⟩ : Res)) fun r => (r.ex = .norm ∨ r.ex = .exit 1) ∧
        Rt (Big.tC r.vals fun v551 cs552 => Big.tP v551 fun p553 => Big.tC cs552 fun v554 cs555 => Big.tI .i64 v554 fun n556 => Big.tC cs555 fun v557 cs558 => Big.tD v557 fun ad559 => Big.tC cs558 fun v560 cs561 => Big.tD v560 fun ad562 => Big.tC cs561 fun v563 cs564 => Big.tD v563 fun ad565 => Big.tC cs564 fun v566 cs567 => Big.tI .i64 v566 fun n568 => Big.tC cs567 fun v569 cs570 => Big.tI .i64 v569 fun n571 => Big.tN cs570 (skip_List_Insert.l0 n m p553 n556 ad559 ad562 ad565 n568 (IntKind.i64.wrap (n571 + 1)) r.w)) (fun r => r.ex = .exit 0 ∧ r.vals = [.pointer (some ⟨b, 0, none⟩), .int .i64 (h : Int), .pointer (some ⟨b0, 0, none⟩), .pointer (some ⟨nb, 0, none⟩)] ∧
        Gx (fun j => SkS b R A c nv j ∨ j = g) w' r.w ∧ SkV r.w base b R A c nv (insS s p s.nodes.length h) ∧ Lc r.w b0 E0 ∧ Lc r.w nb [X0, X1, X2, X3, .slice (some ⟨g, 0, none⟩) h h] ∧ Own .i64 3 r.w z (.slice (some ⟨g, 0, none⟩) h h) (nxs (fun j => en (Sk.hd ((chain s ord j).dropWhile (bel s k)))) h h)) ∨ r.ex = .ret ∧ (r.ex = .exit 0 ∧ r.vals = [.pointer (some ⟨b, 0, none⟩), .int .i64 (h : Int), .pointer (some ⟨b0, 0, none⟩), .pointer (some ⟨nb, 0, none⟩)] ∧
        Gx (fun j => SkS b R A c nv j ∨ j = g) w' r.w ∧ SkV r.w base b R A c nv (insS s p s.nodes.length h) ∧ Lc r.w b0 E0 ∧ Lc r.w nb [X0, X1, X2, X3, .slice (some ⟨g, 0, none⟩) h h] ∧ Own .i64 3 r.w z (.slice (some ⟨g, 0, none⟩) h h) (nxs (fun j => en (Sk.hd ((chain s ord j).dropWhile (bel s k)))) h h)) := by
      intro w2 hS2 g2
      refine Rt.some' (.inl ⟨.inl rfl, ?_⟩)
      (repeat (first | (with_reducible (first | refine Rt.fin ?_ | refine Rt.tL ?_ | refine Rt.tI ?_ | refine Rt.tB ?_ | refine Rt.tS ?_ | refine Rt.tP ?_ | refine Rt.tD ?_ | refine Rt.tM ?_ | refine Rt.tC ?_ | refine Rt.tN ?_ | refine Rt.tA ?_ | refine Rt.tG ?_ | refine Rt.tF ?_ | refine Rt.os ?_ | refine Rt.clS ?_ | refine Rt.jmN ?_ | refine Rt.jbN ?_ | refine Rt.jbE ?_)) | ((with_reducible (first | apply Rt.ld0 | apply Rt.ld1 | apply Rt.ld2 | apply Rt.ld3 | apply Rt.ld4 | apply Rt.ld5)); first | assumption | exact Lc.kp (by assumption) (by assumption)) | ((with_reducible apply Rt.ol); first | assumption | exact cell_kp (by assumption) (by assumption)) | ((with_reducible apply Rt.ckR); focus ((repeat (first | (with_reducible (first | refine Rt.fin ?_ | refine Rt.tL ?_ | refine Rt.tI ?_ | refine Rt.tB ?_ | refine Rt.tS ?_ | refine Rt.tP ?_ | refine Rt.tD ?_ | refine Rt.tM ?_ | refine Rt.tC ?_ | refine Rt.tN ?_ | refine Rt.tA ?_ | refine Rt.tG ?_ | refine Rt.tF ?_ | refine Rt.os ?_ | refine Rt.clS ?_ | refine Rt.jmN ?_ | refine Rt.jbN ?_ | refine Rt.jbE ?_)) | ((with_reducible (first | apply Rt.ld0 | apply Rt.ld1 | apply Rt.ld2 | apply Rt.ld3 | apply Rt.ld4 | apply Rt.ld5)); first | assumption | exact Lc.kp (by assumption) (by assumption)) | ((with_reducible apply Rt.ol); first | assumption | exact cell_kp (by assumption) (by assumption)))); exact Rt.some' rfl))))
      rw [i64_in _ (by omega), show ((i : Int) + 1) = ((i + 1 : Nat) : Int) by omega]
      have far : ∀ j, z ≤ j → ¬ SkS b R A c nv j := fun j hj h' => by have := hzb j h'; omega
      have := ih (i + 1) m w2 (by omega) (by omega) hS2 (lp1.gx g2 (far _ hbp)) (l01.gx g2 (far _ hb0)) (ln1.gx g2 (far _ hnb)) (ho1.gx g2 fun j hj e => by
        have hj : some g = some j := hj
        injection hj with hj
        exact far j (by omega) e)
      refine Rt.mono this fun r ⟨h1, h2, h3, h4⟩ => ⟨h1, h2, (gd.tr (g2.wide fun j _ e => .inl e)).tr h3, h4⟩
    refine Rt.ixRb (by omega) (by omega) ?_
    rw [Int.toNat_natCast]
    refine Rt.ol (hpv lp1) (Rt.tI ?_)
    have hS1d := hS1.gx (T := fun _ => False) ((Kp.rfl' w1).dr.gx) fun _ _ h => h
    have hlen : nv.length = s.nodes.length := by rw [hS.len]; exact (insS_nd s p s.nodes.length i).2.1
    have e1 : Value.int .i64 (nv.length : Int) = .int .i64 (en (some s.nodes.length)) := by rw [hlen]; rfl
    refine Rt.cQ (fun hn => ?_) fun hn => ?_
    · have hpn := en_none.1 hn
      refine Rt.os (Rt.ldn hS1d.lc (blk_12 _ _ _ _ hS1d.fst) (Rt.tL (Rt.os (Rt.ixRb (by omega) (by omega) ?_))))
      rw [Int.toNat_natCast, e1]
      refine Rt.setFirst hS1d (by omega) fun w2 hS2 g2 => go w2 ?_ (((Kp.rfl' w1).dr.gx).tr (g2.wide fun j _ e => .inl e))
      show SkV w2 base b R A c nv (setAft (insS s p s.nodes.length i) (p i) i (some s.nodes.length))
      rw [hpn]; exact hS2
    · cases hpi : p i with
      | none => rw [hpi] at hn; exact absurd rfl hn
      | some q =>
        rw [hpi] at haft
        obtain ⟨x, hx, hv⟩ := haft
        have hjl := (List.getElem?_eq_some_iff.1 hv).1
        refine Rt.os (Rt.ldn hS1d.lc (blk_12 _ _ _ _ hS1d.fst) (Rt.tL (Rt.ixRb (by omega) (by omega) ?_)))
        rw [Int.toNat_natCast]
        refine Rt.ol (hpv lp1.dr') (Rt.tI ?_)
        rw [hpi]
        refine Rt.ixNd hS1d hx fun a v hv' hd c0 c1 c2 c3 c4 => Rt.ol c4 (Rt.tL (Rt.os (Rt.ldn hS1d.lc (blk_12 _ _ _ _ hS1d.fst) (Rt.tL ?_))))
        rw [e1]
        refine Rt.setNext hS1d hx hv' hjl fun w2 hS2 g2 => go w2 ?_ (((Kp.rfl' w1).dr.gx).tr (g2.wide fun j _ e => .inr (.inr (.inl ⟨q, v, hv', e.symm⟩))))
        show SkV w2 base b R A c nv (setAft (insS s p s.nodes.length i) (p i) i (some s.nodes.length))
        rw [hpi]; exact hS2
end
end Go.Proofs.Ytoilmnplocfipaa.Sk
