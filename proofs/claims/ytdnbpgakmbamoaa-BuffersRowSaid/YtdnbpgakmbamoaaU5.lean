/- Buffers: the laws of rows and budgets. -/
import Derived.Test.YtdnbpgakmbamoaaU4
import Derived.Test.YtdnbpgakmbamoaaM5
namespace Go.Proofs.Ytdnbpgakmbamoaa.Bu
open Go Big Go.RowKit Go.IntWalk Si
set_option linter.unusedVariables false
set_option linter.unusedSimpArgs false
set_option maxRecDepth 100000 in
theorem act_open {H : Type} {enc : TypeId × Value → H} {W : World} {base : Nat} {spare : Nat → Bool} {held : Bool} (n : Nat) (cs : List Value) (y : DataW H × List MemPlace) (h : DataW.trod enc Try.prog W base spare held n 44 cs = some y) : ∃ x, actEl.rd W cs x := by
  obtain ⟨hl, hg⟩ := st_open Try.underlying44 h
  have hl : cs.length = 2 := hl
  match cs, hl with
  | [c0, c1], _ =>
    obtain ⟨_, _, g0⟩ := hg 0 _ rfl
    obtain ⟨_, _, g1⟩ := hg 1 _ rfl
    obtain ⟨k, e0, r0⟩ := int_open (k := .i64) Try.underlying3 g0
    obtain ⟨m, e1, r1⟩ := int_open (k := .i64) Try.underlying3 g1
    have f0 : c0 = Value.int .i64 k := (List.cons.inj (show [c0] = [Value.int .i64 k] from e0)).1
    have f1 : c1 = Value.int .i64 m := (List.cons.inj (show [c1] = [Value.int .i64 m] from e1)).1
    subst f0 f1
    exact ⟨(k, m), rfl, r1⟩
theorem and1023 (x : Int) : 0 ≤ bits .and .i64 x 1023 ∧ bits .and .i64 x 1023 ≤ 1023 := by
  have h : (BitVec.ofInt 64 x &&& BitVec.ofInt 64 ((1023 : Nat) : Int)).toNat ≤ 1023 := by
    rw [BitVec.toNat_and, BitVec.ofInt_natCast, BitVec.toNat_ofNat]
    exact Nat.and_le_right
  unfold bits
  simp only [IntKind.bits]
  show 0 ≤ IntKind.i64.wrap (((BitVec.ofInt 64 x &&& BitVec.ofInt 64 ((1023 : Nat) : Int)).toNat : Nat) : Int) ∧ IntKind.i64.wrap (((BitVec.ofInt 64 x &&& BitVec.ofInt 64 ((1023 : Nat) : Int)).toNat : Nat) : Int) ≤ 1023
  rw [i64_in _ (by omega)]
  omega
section
variable {α : Type} {Q : α → Prop} {n base b o r : Nat} {w w' w0 : World} {S S' T S1 S2 S3 : Nat → Prop} {s so sr s' : St} {x : Int} {A B : Option Addr} {l c d : Nat} {xs : List Int} {ac : List (Int × Int)} {vs : List Value}
theorem clamp_in {x hi : Int} (h : 1 ≤ x ∧ x ≤ hi) : (if hi < (if 1 < x then x else 1) then hi else (if 1 < x then x else 1)) = x := by
  have : (if 1 < x then x else 1) = x := by split <;> omega
  rw [this, if_neg (by omega)]
theorem Row_l0 (hs : Bv .i64 w0 A l c xs) (hl : l ≤ 50) {bud : Int} (hb : 1 ≤ bud ∧ bud ≤ 1000) : ∀ (q i m : Nat) (w : World) (s : St) (S : Nat → Prop) (B : Option Addr) (k d : Nat), i + q = l → q < m → Kp w0 w → Bf w w0.heap.size b S s → s.bud = bud → s.most = 100 → s.full.length ≤ i → Own .i64 3 w w0.heap.size (.slice B k d) s.full → Dj S (On (.slice B k d)) →
    Rt (butterylaw10_BuffersRow.l0 n m bud A l c (some ⟨b, 0, none⟩) B k d s.now (i : Int) w) fun x => x.ex = .exit 0 ∧ ∃ s' B' d', x.vals = [pt b, .slice B' s'.full.length d', .int .i64 s'.now] ∧ Kp w0 x.w ∧ s'.full.length ≤ 50 ∧ ∃ S', Bf x.w w0.heap.size b S' s' ∧ Own .i64 3 x.w w0.heap.size (.slice B' s'.full.length d') s'.full := by
  obtain ⟨t, hT⟩ := slI
  intro q
  induction q with
  | zero =>
    intro i m w s S B k d hi hm hk h h1 h2 h3 ho hd
    obtain ⟨m, rfl⟩ : ∃ m', m = m' + 1 := ⟨m - 1, by omega⟩
    rw [butterylaw10_BuffersRow.l0_succ]
    have := ho.sl.1
    subst this
    exact Rt.cDF (by omega) (Rt.some' ⟨rfl, s, B, d, rfl, hk, by omega, S, h, ho⟩)
  | succ q ih =>
    intro i m w s S B k d hi hm hk h h1 h2 h3 ho hd
    obtain ⟨m, rfl⟩ : ∃ m', m = m' + 1 := ⟨m - 1, by omega⟩
    rw [butterylaw10_BuffersRow.l0_succ]
    have hkl := ho.sl.1
    have hok := h.1
    refine Rt.cDT (by omega) (Rt.jb ?_)
    refine Rt.ix (hs.kp hk).sl (by omega) (by omega) ?_
    generalize hv : bits .and .i64 (xs.getD (i : Int).toNat 0) 1023 = v
    have hv01 : 0 ≤ v ∧ v ≤ 1023 := by rw [← hv]; exact and1023 _
    have hmx : mx v = v := by unfold mx; split <;> omega
    refine Rt.call (Add_spec (x := v) h hk.size) ?_
    rintro _ w1 ⟨_, S1, hr, g1, f1, hb1⟩
    cases hr
    (repeat (first | (with_reducible refine Rt.fin ?_) | (with_reducible refine Rt.tL ?_) | (with_reducible refine Rt.tI ?_) | (with_reducible refine Rt.tB ?_) | (with_reducible refine Rt.tS ?_) | (with_reducible refine Rt.tP ?_) | (with_reducible refine Rt.tD ?_) | (with_reducible refine Rt.tM ?_) | (with_reducible refine Rt.tC ?_) | (with_reducible refine Rt.tN ?_) | (with_reducible refine Rt.tA ?_) | (with_reducible refine Rt.tG ?_) | (with_reducible refine Rt.tF ?_) | (with_reducible refine Rt.os ?_) | (with_reducible refine Rt.clS ?_) | (with_reducible refine Rt.jmN ?_) | (with_reducible refine Rt.jbN ?_) | (with_reducible refine Rt.jbE ?_) | ((with_reducible apply Rt.ld0); first | assumption | exact Lc.kp (by assumption) (by assumption)) | ((with_reducible apply Rt.ld1); first | assumption | exact Lc.kp (by assumption) (by assumption)) | ((with_reducible apply Rt.ld2); first | assumption | exact Lc.kp (by assumption) (by assumption)) | ((with_reducible apply Rt.ld3); first | assumption | exact Lc.kp (by assumption) (by assumption)) | ((with_reducible apply Rt.ld4); first | assumption | exact Lc.kp (by assumption) (by assumption)) | ((with_reducible apply Rt.ol); first | assumption | exact cell_kp (by assumption) (by assumption)) | ((with_reducible apply Rt.ckR); focus ((repeat (first | (with_reducible refine Rt.fin ?_) | (with_reducible refine Rt.tL ?_) | (with_reducible refine Rt.tI ?_) | (with_reducible refine Rt.tB ?_) | (with_reducible refine Rt.tS ?_) | (with_reducible refine Rt.tP ?_) | (with_reducible refine Rt.tD ?_) | (with_reducible refine Rt.tM ?_) | (with_reducible refine Rt.tC ?_) | (with_reducible refine Rt.tN ?_) | (with_reducible refine Rt.tA ?_) | (with_reducible refine Rt.tG ?_) | (with_reducible refine Rt.tF ?_) | (with_reducible refine Rt.os ?_) | (with_reducible refine Rt.clS ?_) | (with_reducible refine Rt.jmN ?_) | (with_reducible refine Rt.jbN ?_) | (with_reducible refine Rt.jbE ?_) | ((with_reducible apply Rt.ld0); first | assumption | exact Lc.kp (by assumption) (by assumption)) | ((with_reducible apply Rt.ld1); first | assumption | exact Lc.kp (by assumption) (by assumption)) | ((with_reducible apply Rt.ld2); first | assumption | exact Lc.kp (by assumption) (by assumption)) | ((with_reducible apply Rt.ld3); first | assumption | exact Lc.kp (by assumption) (by assumption)) | ((with_reducible apply Rt.ld4); first | assumption | exact Lc.kp (by assumption) (by assumption)) | ((with_reducible apply Rt.ol); first | assumption | exact cell_kp (by assumption) (by assumption)))); exact Rt.some' rfl))))
    have k1 := hk.tx g1 fun j hj => (h.lt hj).1
    have ho1 := ho.gx g1 fun j hj hS => hd j hS hj
    have hd1 : Dj S1 (On (.slice B k d)) := hd.step f1 fun j hj => (ho.lt j hj).2
    have hi1 : IntKind.i64.wrap ((i : Int) + 1) = ((i + 1 : Nat) : Int) := by rw [i64_in _ (by omega)]; omega
    have hask : s.ask v = if v > bud then 2 else 0 := by
      unfold St.ask
      rw [hmx, h1, h2]
      split
      · rfl
      · rw [if_neg fun h => by have := h.2; omega]
    refine Rt.cD (fun h4 => ?_) fun h4 => ?_
    · rw [hask, if_pos h4]
      refine Rt.cF rfl (Rt.some' (.inl ⟨.inr rfl, ?_⟩))
      (repeat (first | (with_reducible refine Rt.fin ?_) | (with_reducible refine Rt.tL ?_) | (with_reducible refine Rt.tI ?_) | (with_reducible refine Rt.tB ?_) | (with_reducible refine Rt.tS ?_) | (with_reducible refine Rt.tP ?_) | (with_reducible refine Rt.tD ?_) | (with_reducible refine Rt.tM ?_) | (with_reducible refine Rt.tC ?_) | (with_reducible refine Rt.tN ?_) | (with_reducible refine Rt.tA ?_) | (with_reducible refine Rt.tG ?_) | (with_reducible refine Rt.tF ?_) | (with_reducible refine Rt.os ?_) | (with_reducible refine Rt.clS ?_) | (with_reducible refine Rt.jmN ?_) | (with_reducible refine Rt.jbN ?_) | (with_reducible refine Rt.jbE ?_) | ((with_reducible apply Rt.ld0); first | assumption | exact Lc.kp (by assumption) (by assumption)) | ((with_reducible apply Rt.ld1); first | assumption | exact Lc.kp (by assumption) (by assumption)) | ((with_reducible apply Rt.ld2); first | assumption | exact Lc.kp (by assumption) (by assumption)) | ((with_reducible apply Rt.ld3); first | assumption | exact Lc.kp (by assumption) (by assumption)) | ((with_reducible apply Rt.ld4); first | assumption | exact Lc.kp (by assumption) (by assumption)) | ((with_reducible apply Rt.ol); first | assumption | exact cell_kp (by assumption) (by assumption)) | ((with_reducible apply Rt.ckR); focus ((repeat (first | (with_reducible refine Rt.fin ?_) | (with_reducible refine Rt.tL ?_) | (with_reducible refine Rt.tI ?_) | (with_reducible refine Rt.tB ?_) | (with_reducible refine Rt.tS ?_) | (with_reducible refine Rt.tP ?_) | (with_reducible refine Rt.tD ?_) | (with_reducible refine Rt.tM ?_) | (with_reducible refine Rt.tC ?_) | (with_reducible refine Rt.tN ?_) | (with_reducible refine Rt.tA ?_) | (with_reducible refine Rt.tG ?_) | (with_reducible refine Rt.tF ?_) | (with_reducible refine Rt.os ?_) | (with_reducible refine Rt.clS ?_) | (with_reducible refine Rt.jmN ?_) | (with_reducible refine Rt.jbN ?_) | (with_reducible refine Rt.jbE ?_) | ((with_reducible apply Rt.ld0); first | assumption | exact Lc.kp (by assumption) (by assumption)) | ((with_reducible apply Rt.ld1); first | assumption | exact Lc.kp (by assumption) (by assumption)) | ((with_reducible apply Rt.ld2); first | assumption | exact Lc.kp (by assumption) (by assumption)) | ((with_reducible apply Rt.ld3); first | assumption | exact Lc.kp (by assumption) (by assumption)) | ((with_reducible apply Rt.ld4); first | assumption | exact Lc.kp (by assumption) (by assumption)) | ((with_reducible apply Rt.ol); first | assumption | exact cell_kp (by assumption) (by assumption)))); exact Rt.some' rfl))))
      rw [hi1]
      have ea : s.add v = s := by unfold St.add; rw [hask, if_pos h4, if_pos (by decide)]
      rw [ea] at hb1
      exact ih (i + 1) m w1 s S1 B k d (by omega) (by omega) k1 hb1 h1 h2 (by omega) ho1 hd1
    · rw [hask, if_neg h4]
      have hbn := hok.2.2.2.1
      have ea : s.add v = if s.over v then s.push.plus v else s.plus v := by unfold St.add; rw [hask, if_neg h4, if_neg (by decide), hmx]
      rw [ea] at hb1
      refine Rt.cF rfl ?_
      refine Rt.jm (Rt.mono (Q' := fun z => z.ex = .norm ∧ ∃ B' d', z.vals = [.int .i64 bud, .slice A l c, pt b, .slice B' (if s.over v then s.push else s).full.length d', .int .i64 (if s.over v then s.push else s).now, .int .i64 (i : Int), .int .i64 v] ∧ Kp w0 z.w ∧ Bf z.w w0.heap.size b S1 (s.add v) ∧ Own .i64 3 z.w w0.heap.size (.slice B' (if s.over v then s.push else s).full.length d') (if s.over v then s.push else s).full ∧ Dj S1 (On (.slice B' (if s.over v then s.push else s).full.length d'))) ?_ ?_)
      · rw [ea]
        have hno : ¬ s.over v → Rt (some (⟨.norm, [.int .i64 bud, .slice A l c, pt b, .slice B k d, .int .i64 s.now, .int .i64 (i : Int), .int .i64 v], w1⟩ : Res)) (fun z => z.ex = .norm ∧ ∃ B' d', z.vals = [.int .i64 bud, .slice A l c, pt b, .slice B' (if s.over v then s.push else s).full.length d', .int .i64 (if s.over v then s.push else s).now, .int .i64 (i : Int), .int .i64 v] ∧ Kp w0 z.w ∧ Bf z.w w0.heap.size b S1 (if s.over v then s.push.plus v else s.plus v) ∧ Own .i64 3 z.w w0.heap.size (.slice B' (if s.over v then s.push else s).full.length d') (if s.over v then s.push else s).full ∧ Dj S1 (On (.slice B' (if s.over v then s.push else s).full.length d'))) := by
          intro hno
          simp only [if_neg hno] at hb1 ⊢
          subst hkl
          exact Rt.some' ⟨rfl, B, d, rfl, k1, hb1, ho1, hd1⟩
        refine Rt.cD (fun h5 => ?_) fun h5 => hno fun h => h5 h.1
        rw [i64_in _ (by omega)]
        refine Rt.cD (fun h6 => ?_) fun h6 => hno fun h => by have := h.2; omega
        have hov : s.over v := ⟨h5, by omega⟩
        simp only [if_pos hov] at hb1 ⊢
        refine Rt.al fun w2 l2 k2 s2 => ?_
        have hk2 := k1.tr k2
        refine Rt.push hT (ho1.kp k2) l2 (by omega) hk2.size fun B3 d3 w3 o3 f3 g3 => ?_
        (repeat (first | (with_reducible refine Rt.fin ?_) | (with_reducible refine Rt.tL ?_) | (with_reducible refine Rt.tI ?_) | (with_reducible refine Rt.tB ?_) | (with_reducible refine Rt.tS ?_) | (with_reducible refine Rt.tP ?_) | (with_reducible refine Rt.tD ?_) | (with_reducible refine Rt.tM ?_) | (with_reducible refine Rt.tC ?_) | (with_reducible refine Rt.tN ?_) | (with_reducible refine Rt.tA ?_) | (with_reducible refine Rt.tG ?_) | (with_reducible refine Rt.tF ?_) | (with_reducible refine Rt.os ?_) | (with_reducible refine Rt.clS ?_) | (with_reducible refine Rt.jmN ?_) | (with_reducible refine Rt.jbN ?_) | (with_reducible refine Rt.jbE ?_) | ((with_reducible apply Rt.ld0); first | assumption | exact Lc.kp (by assumption) (by assumption)) | ((with_reducible apply Rt.ld1); first | assumption | exact Lc.kp (by assumption) (by assumption)) | ((with_reducible apply Rt.ld2); first | assumption | exact Lc.kp (by assumption) (by assumption)) | ((with_reducible apply Rt.ld3); first | assumption | exact Lc.kp (by assumption) (by assumption)) | ((with_reducible apply Rt.ld4); first | assumption | exact Lc.kp (by assumption) (by assumption)) | ((with_reducible apply Rt.ol); first | assumption | exact cell_kp (by assumption) (by assumption)) | ((with_reducible apply Rt.ckR); focus ((repeat (first | (with_reducible refine Rt.fin ?_) | (with_reducible refine Rt.tL ?_) | (with_reducible refine Rt.tI ?_) | (with_reducible refine Rt.tB ?_) | (with_reducible refine Rt.tS ?_) | (with_reducible refine Rt.tP ?_) | (with_reducible refine Rt.tD ?_) | (with_reducible refine Rt.tM ?_) | (with_reducible refine Rt.tC ?_) | (with_reducible refine Rt.tN ?_) | (with_reducible refine Rt.tA ?_) | (with_reducible refine Rt.tG ?_) | (with_reducible refine Rt.tF ?_) | (with_reducible refine Rt.os ?_) | (with_reducible refine Rt.clS ?_) | (with_reducible refine Rt.jmN ?_) | (with_reducible refine Rt.jbN ?_) | (with_reducible refine Rt.jbE ?_) | ((with_reducible apply Rt.ld0); first | assumption | exact Lc.kp (by assumption) (by assumption)) | ((with_reducible apply Rt.ld1); first | assumption | exact Lc.kp (by assumption) (by assumption)) | ((with_reducible apply Rt.ld2); first | assumption | exact Lc.kp (by assumption) (by assumption)) | ((with_reducible apply Rt.ld3); first | assumption | exact Lc.kp (by assumption) (by assumption)) | ((with_reducible apply Rt.ld4); first | assumption | exact Lc.kp (by assumption) (by assumption)) | ((with_reducible apply Rt.ol); first | assumption | exact cell_kp (by assumption) (by assumption)))); exact Rt.some' rfl))))
        have hd3 : Dj S1 (On (.slice B3 (s.full.length + 1) d3)) := fun j ha hj => (f3 j hj).elim (hd1 j ha) fun h => by have := (hb1.lt ha).2; have := k2.size; omega
        have ep : s.push.full.length = s.full.length + 1 := by show (s.full ++ [s.now]).length = _; simp
        refine Rt.some' ⟨rfl, B3, d3, by rw [ep]; rfl, hk2.tx g3 fun j hj => (ho1.lt j hj).1, (hb1.kp k2).gx g3 fun j ha hj => hd1 j ha hj, by rw [ep]; exact o3, by rw [ep]; exact hd3⟩
      · rintro ⟨ex, vs, w3⟩ ⟨h5, B', d', h6, k3, b3, o3, d3⟩
        dsimp only at h5 h6 k3 b3 o3
        subst h5 h6
        refine ⟨rfl, ?_⟩
        (repeat (first | (with_reducible refine Rt.fin ?_) | (with_reducible refine Rt.tL ?_) | (with_reducible refine Rt.tI ?_) | (with_reducible refine Rt.tB ?_) | (with_reducible refine Rt.tS ?_) | (with_reducible refine Rt.tP ?_) | (with_reducible refine Rt.tD ?_) | (with_reducible refine Rt.tM ?_) | (with_reducible refine Rt.tC ?_) | (with_reducible refine Rt.tN ?_) | (with_reducible refine Rt.tA ?_) | (with_reducible refine Rt.tG ?_) | (with_reducible refine Rt.tF ?_) | (with_reducible refine Rt.os ?_) | (with_reducible refine Rt.clS ?_) | (with_reducible refine Rt.jmN ?_) | (with_reducible refine Rt.jbN ?_) | (with_reducible refine Rt.jbE ?_) | ((with_reducible apply Rt.ld0); first | assumption | exact Lc.kp (by assumption) (by assumption)) | ((with_reducible apply Rt.ld1); first | assumption | exact Lc.kp (by assumption) (by assumption)) | ((with_reducible apply Rt.ld2); first | assumption | exact Lc.kp (by assumption) (by assumption)) | ((with_reducible apply Rt.ld3); first | assumption | exact Lc.kp (by assumption) (by assumption)) | ((with_reducible apply Rt.ld4); first | assumption | exact Lc.kp (by assumption) (by assumption)) | ((with_reducible apply Rt.ol); first | assumption | exact cell_kp (by assumption) (by assumption)) | ((with_reducible apply Rt.ckR); focus ((repeat (first | (with_reducible refine Rt.fin ?_) | (with_reducible refine Rt.tL ?_) | (with_reducible refine Rt.tI ?_) | (with_reducible refine Rt.tB ?_) | (with_reducible refine Rt.tS ?_) | (with_reducible refine Rt.tP ?_) | (with_reducible refine Rt.tD ?_) | (with_reducible refine Rt.tM ?_) | (with_reducible refine Rt.tC ?_) | (with_reducible refine Rt.tN ?_) | (with_reducible refine Rt.tA ?_) | (with_reducible refine Rt.tG ?_) | (with_reducible refine Rt.tF ?_) | (with_reducible refine Rt.os ?_) | (with_reducible refine Rt.clS ?_) | (with_reducible refine Rt.jmN ?_) | (with_reducible refine Rt.jbN ?_) | (with_reducible refine Rt.jbE ?_) | ((with_reducible apply Rt.ld0); first | assumption | exact Lc.kp (by assumption) (by assumption)) | ((with_reducible apply Rt.ld1); first | assumption | exact Lc.kp (by assumption) (by assumption)) | ((with_reducible apply Rt.ld2); first | assumption | exact Lc.kp (by assumption) (by assumption)) | ((with_reducible apply Rt.ld3); first | assumption | exact Lc.kp (by assumption) (by assumption)) | ((with_reducible apply Rt.ld4); first | assumption | exact Lc.kp (by assumption) (by assumption)) | ((with_reducible apply Rt.ol); first | assumption | exact cell_kp (by assumption) (by assumption)))); exact Rt.some' rfl))))
        refine Rt.some' (.inl ⟨.inl rfl, ?_⟩)
        (repeat (first | (with_reducible refine Rt.fin ?_) | (with_reducible refine Rt.tL ?_) | (with_reducible refine Rt.tI ?_) | (with_reducible refine Rt.tB ?_) | (with_reducible refine Rt.tS ?_) | (with_reducible refine Rt.tP ?_) | (with_reducible refine Rt.tD ?_) | (with_reducible refine Rt.tM ?_) | (with_reducible refine Rt.tC ?_) | (with_reducible refine Rt.tN ?_) | (with_reducible refine Rt.tA ?_) | (with_reducible refine Rt.tG ?_) | (with_reducible refine Rt.tF ?_) | (with_reducible refine Rt.os ?_) | (with_reducible refine Rt.clS ?_) | (with_reducible refine Rt.jmN ?_) | (with_reducible refine Rt.jbN ?_) | (with_reducible refine Rt.jbE ?_) | ((with_reducible apply Rt.ld0); first | assumption | exact Lc.kp (by assumption) (by assumption)) | ((with_reducible apply Rt.ld1); first | assumption | exact Lc.kp (by assumption) (by assumption)) | ((with_reducible apply Rt.ld2); first | assumption | exact Lc.kp (by assumption) (by assumption)) | ((with_reducible apply Rt.ld3); first | assumption | exact Lc.kp (by assumption) (by assumption)) | ((with_reducible apply Rt.ld4); first | assumption | exact Lc.kp (by assumption) (by assumption)) | ((with_reducible apply Rt.ol); first | assumption | exact cell_kp (by assumption) (by assumption)) | ((with_reducible apply Rt.ckR); focus ((repeat (first | (with_reducible refine Rt.fin ?_) | (with_reducible refine Rt.tL ?_) | (with_reducible refine Rt.tI ?_) | (with_reducible refine Rt.tB ?_) | (with_reducible refine Rt.tS ?_) | (with_reducible refine Rt.tP ?_) | (with_reducible refine Rt.tD ?_) | (with_reducible refine Rt.tM ?_) | (with_reducible refine Rt.tC ?_) | (with_reducible refine Rt.tN ?_) | (with_reducible refine Rt.tA ?_) | (with_reducible refine Rt.tG ?_) | (with_reducible refine Rt.tF ?_) | (with_reducible refine Rt.os ?_) | (with_reducible refine Rt.clS ?_) | (with_reducible refine Rt.jmN ?_) | (with_reducible refine Rt.jbN ?_) | (with_reducible refine Rt.jbE ?_) | ((with_reducible apply Rt.ld0); first | assumption | exact Lc.kp (by assumption) (by assumption)) | ((with_reducible apply Rt.ld1); first | assumption | exact Lc.kp (by assumption) (by assumption)) | ((with_reducible apply Rt.ld2); first | assumption | exact Lc.kp (by assumption) (by assumption)) | ((with_reducible apply Rt.ld3); first | assumption | exact Lc.kp (by assumption) (by assumption)) | ((with_reducible apply Rt.ld4); first | assumption | exact Lc.kp (by assumption) (by assumption)) | ((with_reducible apply Rt.ol); first | assumption | exact cell_kp (by assumption) (by assumption)))); exact Rt.some' rfl))))
        rw [hi1]
        have en : (if s.over v then s.push else s).now + v = (s.add v).now := by rw [ea]; split <;> rfl
        have ef : (if s.over v then s.push else s).full = (s.add v).full := by rw [ea]; split <;> rfl
        have hb3 := b3.1
        have hlen : (s.add v).full.length ≤ i + 1 := by
          rw [← ef]; split
          · show (s.full ++ [s.now]).length ≤ _; simp; omega
          · omega
        have ebud : (s.add v).bud = bud := by rw [ea, ← h1]; split <;> rfl
        have emost : (s.add v).most = 100 := by rw [ea, ← h2]; split <;> rfl
        have hnn := hb3.2.2.2.1
        rw [en, i64_in _ (by omega)]
        rw [ef] at o3 d3 ⊢
        exact ih (i + 1) m w3 (s.add v) S1 B' _ d' (by omega) (by omega) k3 b3 ebud emost hlen o3 d3
theorem LRow_spec {bud : Int} (hs : Bv .i64 w A l c xs) (hn : 1000 < n) : Rt (butterylaw10_BuffersRow n [.int .i64 bud, .slice A l c] w) (RB True w) := by
  obtain ⟨t, hT⟩ := slI
  rw [butterylaw10_BuffersRow_eq]
  refine Rt.fin (Rt.cBt (alive_spec hn) trivial fun w1 k1 => Rt.cF rfl (Rt.cD (fun h => Rt.endB (by simp) k1) fun h1 => Rt.cD (fun h => Rt.endB (by simp) k1) fun h2 => Rt.cD (fun h => Rt.endB (by simp) k1) fun h3 => ?_))
  refine Rt.call (New_spec (base := w.heap.size) k1.size) ?_
  rintro _ w2 ⟨_, b, S1, hr, k2, hb, h4, f4⟩
  cases hr
  (repeat (first | (with_reducible refine Rt.fin ?_) | (with_reducible refine Rt.tL ?_) | (with_reducible refine Rt.tI ?_) | (with_reducible refine Rt.tB ?_) | (with_reducible refine Rt.tS ?_) | (with_reducible refine Rt.tP ?_) | (with_reducible refine Rt.tD ?_) | (with_reducible refine Rt.tM ?_) | (with_reducible refine Rt.tC ?_) | (with_reducible refine Rt.tN ?_) | (with_reducible refine Rt.tA ?_) | (with_reducible refine Rt.tG ?_) | (with_reducible refine Rt.tF ?_) | (with_reducible refine Rt.os ?_) | (with_reducible refine Rt.clS ?_) | (with_reducible refine Rt.jmN ?_) | (with_reducible refine Rt.jbN ?_) | (with_reducible refine Rt.jbE ?_) | ((with_reducible apply Rt.ld0); first | assumption | exact Lc.kp (by assumption) (by assumption)) | ((with_reducible apply Rt.ld1); first | assumption | exact Lc.kp (by assumption) (by assumption)) | ((with_reducible apply Rt.ld2); first | assumption | exact Lc.kp (by assumption) (by assumption)) | ((with_reducible apply Rt.ld3); first | assumption | exact Lc.kp (by assumption) (by assumption)) | ((with_reducible apply Rt.ld4); first | assumption | exact Lc.kp (by assumption) (by assumption)) | ((with_reducible apply Rt.ol); first | assumption | exact cell_kp (by assumption) (by assumption)) | ((with_reducible apply Rt.ckR); focus ((repeat (first | (with_reducible refine Rt.fin ?_) | (with_reducible refine Rt.tL ?_) | (with_reducible refine Rt.tI ?_) | (with_reducible refine Rt.tB ?_) | (with_reducible refine Rt.tS ?_) | (with_reducible refine Rt.tP ?_) | (with_reducible refine Rt.tD ?_) | (with_reducible refine Rt.tM ?_) | (with_reducible refine Rt.tC ?_) | (with_reducible refine Rt.tN ?_) | (with_reducible refine Rt.tA ?_) | (with_reducible refine Rt.tG ?_) | (with_reducible refine Rt.tF ?_) | (with_reducible refine Rt.os ?_) | (with_reducible refine Rt.clS ?_) | (with_reducible refine Rt.jmN ?_) | (with_reducible refine Rt.jbN ?_) | (with_reducible refine Rt.jbE ?_) | ((with_reducible apply Rt.ld0); first | assumption | exact Lc.kp (by assumption) (by assumption)) | ((with_reducible apply Rt.ld1); first | assumption | exact Lc.kp (by assumption) (by assumption)) | ((with_reducible apply Rt.ld2); first | assumption | exact Lc.kp (by assumption) (by assumption)) | ((with_reducible apply Rt.ld3); first | assumption | exact Lc.kp (by assumption) (by assumption)) | ((with_reducible apply Rt.ld4); first | assumption | exact Lc.kp (by assumption) (by assumption)) | ((with_reducible apply Rt.ol); first | assumption | exact cell_kp (by assumption) (by assumption)))); exact Rt.some' rfl))))
  rw [clamp_in (hi := 1073741824) (by omega), clamp_in (hi := 100) (by omega)] at h4
  refine Rt.jb (Rt.mono (Row_l0 (n := n) hs (by omega) (bud := bud) (by omega) l 0 n w2 _ S1 none 0 0 (by omega) (by omega) (k1.tr k2) h4 rfl rfl (Nat.zero_le _) (Own.nil _ _) (fun j _ h => by cases h)) ?_)
  rintro ⟨ex, vs, w5⟩ ⟨h5, s', B', d', h6, k5, h7, S', b5, o5⟩
  dsimp only at h5 h6 k5 b5 o5
  subst h5 h6
  refine .inl ⟨.inr rfl, ?_⟩
  (repeat (first | (with_reducible refine Rt.fin ?_) | (with_reducible refine Rt.tL ?_) | (with_reducible refine Rt.tI ?_) | (with_reducible refine Rt.tB ?_) | (with_reducible refine Rt.tS ?_) | (with_reducible refine Rt.tP ?_) | (with_reducible refine Rt.tD ?_) | (with_reducible refine Rt.tM ?_) | (with_reducible refine Rt.tC ?_) | (with_reducible refine Rt.tN ?_) | (with_reducible refine Rt.tA ?_) | (with_reducible refine Rt.tG ?_) | (with_reducible refine Rt.tF ?_) | (with_reducible refine Rt.os ?_) | (with_reducible refine Rt.clS ?_) | (with_reducible refine Rt.jmN ?_) | (with_reducible refine Rt.jbN ?_) | (with_reducible refine Rt.jbE ?_) | ((with_reducible apply Rt.ld0); first | assumption | exact Lc.kp (by assumption) (by assumption)) | ((with_reducible apply Rt.ld1); first | assumption | exact Lc.kp (by assumption) (by assumption)) | ((with_reducible apply Rt.ld2); first | assumption | exact Lc.kp (by assumption) (by assumption)) | ((with_reducible apply Rt.ld3); first | assumption | exact Lc.kp (by assumption) (by assumption)) | ((with_reducible apply Rt.ld4); first | assumption | exact Lc.kp (by assumption) (by assumption)) | ((with_reducible apply Rt.ol); first | assumption | exact cell_kp (by assumption) (by assumption)) | ((with_reducible apply Rt.ckR); focus ((repeat (first | (with_reducible refine Rt.fin ?_) | (with_reducible refine Rt.tL ?_) | (with_reducible refine Rt.tI ?_) | (with_reducible refine Rt.tB ?_) | (with_reducible refine Rt.tS ?_) | (with_reducible refine Rt.tP ?_) | (with_reducible refine Rt.tD ?_) | (with_reducible refine Rt.tM ?_) | (with_reducible refine Rt.tC ?_) | (with_reducible refine Rt.tN ?_) | (with_reducible refine Rt.tA ?_) | (with_reducible refine Rt.tG ?_) | (with_reducible refine Rt.tF ?_) | (with_reducible refine Rt.os ?_) | (with_reducible refine Rt.clS ?_) | (with_reducible refine Rt.jmN ?_) | (with_reducible refine Rt.jbN ?_) | (with_reducible refine Rt.jbE ?_) | ((with_reducible apply Rt.ld0); first | assumption | exact Lc.kp (by assumption) (by assumption)) | ((with_reducible apply Rt.ld1); first | assumption | exact Lc.kp (by assumption) (by assumption)) | ((with_reducible apply Rt.ld2); first | assumption | exact Lc.kp (by assumption) (by assumption)) | ((with_reducible apply Rt.ld3); first | assumption | exact Lc.kp (by assumption) (by assumption)) | ((with_reducible apply Rt.ld4); first | assumption | exact Lc.kp (by assumption) (by assumption)) | ((with_reducible apply Rt.ol); first | assumption | exact cell_kp (by assumption) (by assumption)))); exact Rt.some' rfl))))
  refine Rt.cO (Sizes_spec b5) fun C e w6 o6 k6 => ?_
  have k56 := k5.tr k6
  refine Rt.al fun w7 l7 k7 s7 => ?_
  have k67 := k6.tr k7
  refine Rt.push hT (o5.kp k67) l7 (by omega) (k5.tr k67).size fun D f w8 o8 f8 g8 => ?_
  (repeat (first | (with_reducible refine Rt.fin ?_) | (with_reducible refine Rt.tL ?_) | (with_reducible refine Rt.tI ?_) | (with_reducible refine Rt.tB ?_) | (with_reducible refine Rt.tS ?_) | (with_reducible refine Rt.tP ?_) | (with_reducible refine Rt.tD ?_) | (with_reducible refine Rt.tM ?_) | (with_reducible refine Rt.tC ?_) | (with_reducible refine Rt.tN ?_) | (with_reducible refine Rt.tA ?_) | (with_reducible refine Rt.tG ?_) | (with_reducible refine Rt.tF ?_) | (with_reducible refine Rt.os ?_) | (with_reducible refine Rt.clS ?_) | (with_reducible refine Rt.jmN ?_) | (with_reducible refine Rt.jbN ?_) | (with_reducible refine Rt.jbE ?_) | ((with_reducible apply Rt.ld0); first | assumption | exact Lc.kp (by assumption) (by assumption)) | ((with_reducible apply Rt.ld1); first | assumption | exact Lc.kp (by assumption) (by assumption)) | ((with_reducible apply Rt.ld2); first | assumption | exact Lc.kp (by assumption) (by assumption)) | ((with_reducible apply Rt.ld3); first | assumption | exact Lc.kp (by assumption) (by assumption)) | ((with_reducible apply Rt.ld4); first | assumption | exact Lc.kp (by assumption) (by assumption)) | ((with_reducible apply Rt.ol); first | assumption | exact cell_kp (by assumption) (by assumption)) | ((with_reducible apply Rt.ckR); focus ((repeat (first | (with_reducible refine Rt.fin ?_) | (with_reducible refine Rt.tL ?_) | (with_reducible refine Rt.tI ?_) | (with_reducible refine Rt.tB ?_) | (with_reducible refine Rt.tS ?_) | (with_reducible refine Rt.tP ?_) | (with_reducible refine Rt.tD ?_) | (with_reducible refine Rt.tM ?_) | (with_reducible refine Rt.tC ?_) | (with_reducible refine Rt.tN ?_) | (with_reducible refine Rt.tA ?_) | (with_reducible refine Rt.tG ?_) | (with_reducible refine Rt.tF ?_) | (with_reducible refine Rt.os ?_) | (with_reducible refine Rt.clS ?_) | (with_reducible refine Rt.jmN ?_) | (with_reducible refine Rt.jbN ?_) | (with_reducible refine Rt.jbE ?_) | ((with_reducible apply Rt.ld0); first | assumption | exact Lc.kp (by assumption) (by assumption)) | ((with_reducible apply Rt.ld1); first | assumption | exact Lc.kp (by assumption) (by assumption)) | ((with_reducible apply Rt.ld2); first | assumption | exact Lc.kp (by assumption) (by assumption)) | ((with_reducible apply Rt.ld3); first | assumption | exact Lc.kp (by assumption) (by assumption)) | ((with_reducible apply Rt.ld4); first | assumption | exact Lc.kp (by assumption) (by assumption)) | ((with_reducible apply Rt.ol); first | assumption | exact cell_kp (by assumption) (by assumption)))); exact Rt.some' rfl))))
  have o6' := (o6.kp k7).gx g8 fun j hj hj' => by have := (o6.lt j hj).1; have := (o5.lt j hj').2; omega
  refine Rt.cBt (SameInts_spec o6'.sl.2 o8.sl.2 (by simp; omega) (by simp; omega)) rfl fun w9 k9 => ?_
  exact Rt.endB (by simp) (((k5.tr k67).tx g8 fun j hj => (o5.lt j hj).1).tr k9)
end
end Go.Proofs.Ytdnbpgakmbamoaa.Bu
