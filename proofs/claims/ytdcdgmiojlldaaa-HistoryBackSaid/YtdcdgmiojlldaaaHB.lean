/- History: what it has, in memory; New, Apply, Big. -/
import Derived.Test.YtdcdgmiojlldaaaHA
namespace Go.Proofs.Ytdcdgmiojlldaaa.Hi
open Go Big Go.RowKit Go.IntWalk
set_option linter.unusedVariables false
set_option linter.unusedSimpArgs false
abbrev pt (b : Nat) : Value := .pointer (some ⟨b, 0, none⟩)
structure HmA (w : World) (base mb : Nat) (A : Option Addr) (c : Nat) (X : List (List OpD)) : Prop where
  lc : Lc w mb [.slice A X.length c]
  row : OwnX (fun j => j = mb) opsEl 28 w base (.slice A X.length c) X
  off : ¬ On (.slice A X.length c) mb
  lo : base ≤ mb
def Hm (w : World) (base mb : Nat) (X : List (List OpD)) : Prop := ∃ A c, HmA w base mb A c X
section
variable {α : Type} {Q : α → Prop} {n m base mb : Nat} {w w' w0 w1 ws : World} {A B C D : Option Addr} {l c m1 d1 m2 d2 d : Nat} {bs cs : List Int} {ops xs : List OpD} {S T : Nat → Prop} {X : List (List OpD)}
/-- append(own, x), the one x in a block made just now. -/
theorem Rt.app1G {γ : Type} {E : El γ} {P : Program} {t e : TypeId} {v : Value} {xs : List γ} {i : TypeInfo} {z : Value} {S : Nat → Prop} {sz : Nat} (hz : E.sz = sz) (hT : SlTE P t e sz i z) {ty : TypeId} (ho : OwnX S E e w base v xs) {us : List Value} {x : γ} {b : Nat} (hl : Lc w b us) (hul : us.length = sz) (hx : Stb (fun k => S k ∨ On v k) (fun w => E.rd w us x) w) (hn : xs.length + 1 ≤ 2 ^ 36) (hb : base ≤ w.heap.size)
    {f : Value → World → Option α} (h : ∀ A c w', OwnX S E e w' base (.slice A (xs.length + 1) c) (xs ++ [x]) → Gx (On v) w w' → (∀ j, On (.slice A (xs.length + 1) c) j → On v j ∨ w.heap.size ≤ j) → Rt (f (.slice A (xs.length + 1) c) w') Q) :
    Rt (rn P (Builtin.append_ #[t, t] ty #[v, .slice (some ⟨b, 0, none⟩) 1 1]) w f) Q := by
  subst hz
  obtain ⟨vs, ho, hs⟩ := ho
  have hr : Stb (fun k => S k ∨ On v k) (fun w => Big.Rows E w us [x]) w := fun w' hg => Big.Rows.one (hx w' hg) hul
  have hbytes : (xs.length + 1) * i.bytes ≤ 140737488355328 := Nat.le_trans (Nat.mul_le_mul hn hT.bytes) (by decide)
  obtain ⟨v', w', h1, h2, h3, _, h5⟩ := run_append_own_at (P := P) w base t ty e i z E.sz i.bytes hT.under hT.info hT.zero hT.size rfl hT.cells hT.pos v _ _ ho ⟨b, 0, none⟩ 1 1 us (by rw [hul, Nat.one_mul])
    (fun j u hj => by rw [Addr.add_lit, Nat.zero_add, hl.ld]; exact hj) hr.out.ones (by simp only [maxLen]; omega) hbytes hb
  have e1 : rn P (Builtin.append_ #[t, t] ty #[v, .slice (some ⟨b, 0, none⟩) 1 1]) w f = f v' w' := by simp only [rn, h1]
  rw [e1]
  have hO : OwnX S E e w' base v' (xs ++ [x]) := by
    refine ⟨vs ++ us, by rw [List.length_append]; exact h2, fun w2 hw2 => ?_⟩
    have hg : Gx (fun k => S k ∨ On v k) w w' := (Gx.of_grown h3).wide fun k _ e => .inr e
    have hg2 : Gx (fun k => S k ∨ On v k) w w2 := hg.tr' hw2 fun k hk e => by
      rcases e with e | e
      · exact .inl e
      · rcases h5 with h5 | h5
        · have e : v'.ownBlock = some k := e
          rw [h5] at e; exact .inr e
        · have e : v'.ownBlock = some k := e
          rw [h5] at e; injection e with e; omega
    exact (hs _ hg2).app (hr _ hg2)
  have hon : ∀ j, On v' j → On v j ∨ w.heap.size ≤ j := fun j hj => by
    have e : v'.ownBlock = some j := hj
    rcases h5 with h5 | h5
    · rw [h5] at e; exact .inl e
    · rw [h5] at e; injection e with e; exact .inr (by omega)
  obtain ⟨A, c, rfl, _⟩ := hO.ownE.slice
  have hl : (xs ++ [x]).length = xs.length + 1 := by rw [List.length_append]; rfl
  rw [hl] at hO hon ⊢
  exact h A c w' hO (Gx.of_grown h3) hon
theorem Hm.kp (h : Hm w base mb X) (k : Kp w w') : Hm w' base mb X := by
  obtain ⟨A, c, h1, h2, h3, h4⟩ := h
  exact ⟨A, c, h1.kp k, h2.kp k, h3, h4⟩
theorem New_spec : Rt (history_New n [] w) fun y => ∃ w', y = ([pt w.heap.size], w') ∧ Kp w w' ∧ Hm w' w.heap.size w.heap.size [] := by
  rw [history_New_eq]
  refine Rt.fin (Rt.al fun w1 l1 k1 s1 => ?_)
  exact Rt.some' ⟨rfl, w1, rfl, k1, none, 0, l1, OwnX.nil _ _ _, fun h => (nomatch h), Nat.le_refl _⟩
theorem Apply_spec (h : Hm w base mb X) (hx : Ev opEl w B l d ops) (hl : l ≤ 2 ^ 20) (hX : X.length ≤ 2 ^ 20) (hb : ∀ x ∈ ops, x.key.length ≤ 2 ^ 20 ∧ x.val.length ≤ 2 ^ 20) (hbase : base ≤ w.heap.size) (hn : 2 ^ 60 < n) : Rt (history_Map_Apply n [pt mb, .slice B l d] w) fun y => ∃ w', y = ([], w') ∧ Hm w' base mb (X ++ [ops]) ∧ Gx (fun j => base ≤ j) w w' := by
  obtain ⟨t, z, hT⟩ := slL
  obtain ⟨A, c, h⟩ := h
  have hol := hx.len
  rw [history_Map_Apply_eq]
  have kd : Kp w w.drew := (Kp.rfl' w).dr
  have l0 := h.lc.kp kd
  have hlt := h.lc.lt
  have hrlt := h.row.lt
  refine Rt.fin ?_
  (repeat (first | (with_reducible (first | refine Rt.fin ?_ | refine Rt.tL ?_ | refine Rt.tI ?_ | refine Rt.tB ?_ | refine Rt.tS ?_ | refine Rt.tP ?_ | refine Rt.tD ?_ | refine Rt.tM ?_ | refine Rt.tC ?_ | refine Rt.tN ?_ | refine Rt.tA ?_ | refine Rt.tG ?_ | refine Rt.tF ?_ | refine Rt.os ?_ | refine Rt.clS ?_ | refine Rt.jmN ?_ | refine Rt.jbN ?_ | refine Rt.jbE ?_)) | ((with_reducible (first | apply Rt.ld0 | apply Rt.ld1 | apply Rt.ld2 | apply Rt.ld3 | apply Rt.ld4 | apply Rt.ld5)); first | assumption | exact Lc.kp (by assumption) (by assumption)) | ((with_reducible apply Rt.ol); first | assumption | exact cell_kp (by assumption) (by assumption)) | ((with_reducible apply Rt.ckR); focus ((repeat (first | (with_reducible (first | refine Rt.fin ?_ | refine Rt.tL ?_ | refine Rt.tI ?_ | refine Rt.tB ?_ | refine Rt.tS ?_ | refine Rt.tP ?_ | refine Rt.tD ?_ | refine Rt.tM ?_ | refine Rt.tC ?_ | refine Rt.tN ?_ | refine Rt.tA ?_ | refine Rt.tG ?_ | refine Rt.tF ?_ | refine Rt.os ?_ | refine Rt.clS ?_ | refine Rt.jmN ?_ | refine Rt.jbN ?_ | refine Rt.jbE ?_)) | ((with_reducible (first | apply Rt.ld0 | apply Rt.ld1 | apply Rt.ld2 | apply Rt.ld3 | apply Rt.ld4 | apply Rt.ld5)); first | assumption | exact Lc.kp (by assumption) (by assumption)) | ((with_reducible apply Rt.ol); first | assumption | exact cell_kp (by assumption) (by assumption)))); exact Rt.some' rfl))))
  obtain ⟨_, e, C, k, w1, rfl, k1, o1⟩ := own_spec (n := n) (hx.kp kd) hl hb hn
  refine Rt.cl e ?_
  have l1 := l0.kp k1
  (repeat (first | (with_reducible (first | refine Rt.fin ?_ | refine Rt.tL ?_ | refine Rt.tI ?_ | refine Rt.tB ?_ | refine Rt.tS ?_ | refine Rt.tP ?_ | refine Rt.tD ?_ | refine Rt.tM ?_ | refine Rt.tC ?_ | refine Rt.tN ?_ | refine Rt.tA ?_ | refine Rt.tG ?_ | refine Rt.tF ?_ | refine Rt.os ?_ | refine Rt.clS ?_ | refine Rt.jmN ?_ | refine Rt.jbN ?_ | refine Rt.jbE ?_)) | ((with_reducible (first | apply Rt.ld0 | apply Rt.ld1 | apply Rt.ld2 | apply Rt.ld3 | apply Rt.ld4 | apply Rt.ld5)); first | assumption | exact Lc.kp (by assumption) (by assumption)) | ((with_reducible apply Rt.ol); first | assumption | exact cell_kp (by assumption) (by assumption)) | ((with_reducible apply Rt.ckR); focus ((repeat (first | (with_reducible (first | refine Rt.fin ?_ | refine Rt.tL ?_ | refine Rt.tI ?_ | refine Rt.tB ?_ | refine Rt.tS ?_ | refine Rt.tP ?_ | refine Rt.tD ?_ | refine Rt.tM ?_ | refine Rt.tC ?_ | refine Rt.tN ?_ | refine Rt.tA ?_ | refine Rt.tG ?_ | refine Rt.tF ?_ | refine Rt.os ?_ | refine Rt.clS ?_ | refine Rt.jmN ?_ | refine Rt.jbN ?_ | refine Rt.jbE ?_)) | ((with_reducible (first | apply Rt.ld0 | apply Rt.ld1 | apply Rt.ld2 | apply Rt.ld3 | apply Rt.ld4 | apply Rt.ld5)); first | assumption | exact Lc.kp (by assumption) (by assumption)) | ((with_reducible apply Rt.ol); first | assumption | exact cell_kp (by assumption) (by assumption)))); exact Rt.some' rfl))))
  have hstb : Stb (fun j => j = mb ∨ On (.slice A X.length c) j) (fun w => Ev opEl w C l k ops) w1 :=
    (o1.less fun j hj => by
      show j < w.drew.heap.size
      have : w.drew.heap.size = w.heap.size := rfl
      rcases hj with hj | hj
      · omega
      · have := (hrlt j hj).2; omega).stb fun j hj => by
      have : w.drew.heap.size = w.heap.size := rfl
      rcases hj with hj | hj
      · omega
      · have := (hrlt j hj).2; omega
  refine Rt.al fun w2 l2 k2 s2 => ?_
  have l12 := l1.kp k2
  have k02 := (kd.tr k1).tr k2
  (repeat (first | (with_reducible (first | refine Rt.fin ?_ | refine Rt.tL ?_ | refine Rt.tI ?_ | refine Rt.tB ?_ | refine Rt.tS ?_ | refine Rt.tP ?_ | refine Rt.tD ?_ | refine Rt.tM ?_ | refine Rt.tC ?_ | refine Rt.tN ?_ | refine Rt.tA ?_ | refine Rt.tG ?_ | refine Rt.tF ?_ | refine Rt.os ?_ | refine Rt.clS ?_ | refine Rt.jmN ?_ | refine Rt.jbN ?_ | refine Rt.jbE ?_)) | ((with_reducible (first | apply Rt.ld0 | apply Rt.ld1 | apply Rt.ld2 | apply Rt.ld3 | apply Rt.ld4 | apply Rt.ld5)); first | assumption | exact Lc.kp (by assumption) (by assumption)) | ((with_reducible apply Rt.ol); first | assumption | exact cell_kp (by assumption) (by assumption)) | ((with_reducible apply Rt.ckR); focus ((repeat (first | (with_reducible (first | refine Rt.fin ?_ | refine Rt.tL ?_ | refine Rt.tI ?_ | refine Rt.tB ?_ | refine Rt.tS ?_ | refine Rt.tP ?_ | refine Rt.tD ?_ | refine Rt.tM ?_ | refine Rt.tC ?_ | refine Rt.tN ?_ | refine Rt.tA ?_ | refine Rt.tG ?_ | refine Rt.tF ?_ | refine Rt.os ?_ | refine Rt.clS ?_ | refine Rt.jmN ?_ | refine Rt.jbN ?_ | refine Rt.jbE ?_)) | ((with_reducible (first | apply Rt.ld0 | apply Rt.ld1 | apply Rt.ld2 | apply Rt.ld3 | apply Rt.ld4 | apply Rt.ld5)); first | assumption | exact Lc.kp (by assumption) (by assumption)) | ((with_reducible apply Rt.ol); first | assumption | exact cell_kp (by assumption) (by assumption)))); exact Rt.some' rfl))))
  have hrow2 := h.row.kp k02
  refine Rt.app1G (E := opsEl) (x := ops) rfl hT hrow2 l2 rfl (fun w3 g3 => ⟨C, l, k, rfl, (hstb.kp k2) w3 g3⟩) (by omega) (by have := k02.size; omega) fun A3 c3 w3 o3 g3 s3 => ?_
  have hoff : ¬ On (.slice A X.length c) mb := h.off
  have l3 := l12.gx g3 hoff
  (repeat (first | (with_reducible (first | refine Rt.fin ?_ | refine Rt.tL ?_ | refine Rt.tI ?_ | refine Rt.tB ?_ | refine Rt.tS ?_ | refine Rt.tP ?_ | refine Rt.tD ?_ | refine Rt.tM ?_ | refine Rt.tC ?_ | refine Rt.tN ?_ | refine Rt.tA ?_ | refine Rt.tG ?_ | refine Rt.tF ?_ | refine Rt.os ?_ | refine Rt.clS ?_ | refine Rt.jmN ?_ | refine Rt.jbN ?_ | refine Rt.jbE ?_)) | ((with_reducible (first | apply Rt.ld0 | apply Rt.ld1 | apply Rt.ld2 | apply Rt.ld3 | apply Rt.ld4 | apply Rt.ld5)); first | assumption | exact Lc.kp (by assumption) (by assumption)) | ((with_reducible apply Rt.ol); first | assumption | exact cell_kp (by assumption) (by assumption)) | ((with_reducible apply Rt.ckR); focus ((repeat (first | (with_reducible (first | refine Rt.fin ?_ | refine Rt.tL ?_ | refine Rt.tI ?_ | refine Rt.tB ?_ | refine Rt.tS ?_ | refine Rt.tP ?_ | refine Rt.tD ?_ | refine Rt.tM ?_ | refine Rt.tC ?_ | refine Rt.tN ?_ | refine Rt.tA ?_ | refine Rt.tG ?_ | refine Rt.tF ?_ | refine Rt.os ?_ | refine Rt.clS ?_ | refine Rt.jmN ?_ | refine Rt.jbN ?_ | refine Rt.jbE ?_)) | ((with_reducible (first | apply Rt.ld0 | apply Rt.ld1 | apply Rt.ld2 | apply Rt.ld3 | apply Rt.ld4 | apply Rt.ld5)); first | assumption | exact Lc.kp (by assumption) (by assumption)) | ((with_reducible apply Rt.ol); first | assumption | exact cell_kp (by assumption) (by assumption)))); exact Rt.some' rfl))))
  refine Rt.st0 l3 fun w4 l4 g4 => ?_
  have hz := k02.size
  have e5 : (X ++ [ops]).length = X.length + 1 := by rw [List.length_append]; rfl
  have o3lt := o3.lt
  have hlo := h.lo
  have hne : ¬ On (.slice A3 (X.length + 1) c3) mb := fun e => by
    rcases s3 mb e with e | e
    · exact hoff e
    · have := h.lc.lt; omega
  refine Rt.some' ⟨rfl, w4, rfl, ⟨A3, c3, by rw [e5]; exact l4, ?_, ?_, hlo⟩, ?_⟩
  · rw [e5]
    exact o3.gx g4 (fun j _ hj => hj) fun j hj e => by have hj : j = mb := hj; subst hj; exact hne e
  · rw [e5]; exact hne
  · exact ((k02.gx.tr (g3.wide fun j _ hj => (hrlt j hj).1)).tr (g4.wide fun j _ hj => by have hj : j = mb := hj; omega))
end
end Go.Proofs.Ytdcdgmiojlldaaa.Hi
