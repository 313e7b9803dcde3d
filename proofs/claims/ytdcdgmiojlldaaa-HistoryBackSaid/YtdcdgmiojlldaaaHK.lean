/- History: Prefix of nothing; the example. -/
import Derived.Test.YtdcdgmiojlldaaaHJ
namespace Go.Proofs.Ytdcdgmiojlldaaa.Hi
open Go Big Go.RowKit Go.IntWalk Go.Maps Go.WideShapes
set_option linter.unusedVariables false
set_option linter.unusedSimpArgs false
theorem conv : ConvB Try.prog 23 := fun a l c w => by kernel_rfl
theorem slBool : ∃ i v, SlTE Try.prog 48 4 1 i v := slTE (by kernel_rfl)
theorem copy0 (a : Option Addr) (w : World) : (Builtin.copy_ #[48, 48] 3 #[.slice a 0 0, .slice none 0 0]).run Try.prog w = .ok (.int .i64 0) w := by
  cases a <;> kernel_rfl
section
variable {α : Type} {Q : α → Prop} {n m base mb b g N i b1 b2 : Nat} {w w' w0 w1 ws : World} {A B C : Option Addr} {l c m1 d1 m2 d2 d k : Nat} {bs cs fr to : List Int} {S T : Nat → Prop} {qs : List KV} {X : List (List OpD)}
theorem Rt.make0 {f : Value → World → Option α} (h : ∀ A w', Kp w w' → Rt (f (.slice A 0 0) w') Q) : Rt (rn Try.prog (Instr.makeSlice 48 (.int .i64 ((0 : Nat) : Int)) (.int .i64 ((0 : Nat) : Int))) w f) Q := by
  obtain ⟨i, v, hT⟩ := slBool
  obtain ⟨w', e1, e2, e3⟩ := run_make_full (P := Try.prog) w w.heap.size 48 4 i v 1 hT.under hT.info hT.zero hT.size .i64 .i64 0 (by simp) (by decide) (Nat.le_refl _)
  rw [rn_run e1]
  exact h _ w' ((Kp.rfl' w).gr e3 (by simp))
theorem Rt.cut0 {f : Option Addr → Nat → Nat → Option α} (h : ∀ X, Rt (f X 0 c) Q) : Rt (cutS A c 0 0 1 f) Q := by
  rw [cutS, if_pos ⟨Int.le_refl _, Int.le_refl _, by omega⟩]
  exact h _
theorem made0 (hn : 2 ^ 60 < n) : Rt (history_made n [.slice A 0 c, .slice B 0 d, .int .i64 0] w) fun y => y = ([.map (some w.heap.size)], w.alloc (.map #[] 0)) := by
  obtain ⟨n, rfl⟩ : ∃ n', n = n' + 1 := ⟨n - 1, by omega⟩
  rw [history_made_eq, history_made.l0_succ]
  refine Rt.fin (Rt.jb (Rt.cDF (by decide) (Rt.some' (.inl ⟨.inr rfl, ?_⟩))))
  exact Rt.tC (Rt.tM (Rt.tN (Rt.some' ⟨rfl, rfl⟩)))
theorem same0 (hn : 2 ^ 60 < n) (hM : Mk w w' b 0 fun _ => none) (hk : Kp w w') : Rt (history_same n [.map (some b), .slice none 0 0] w') (RB True w') := by
  rw [history_same_eq]
  have hnone : ∀ qs : List KV, (∀ q ∈ qs, Bytes q.1 ∧ (fun _ : List Int => (none : Option (List Int))) q.1 = some q.2) → qs = [] := fun qs h => by
    cases qs with
    | nil => rfl
    | cons q qs => have := (h q List.mem_cons_self).2; cases this
  obtain ⟨_, e, A1, c1, w1, qs, rfl, k1, o1, hT⟩ := pairs_spec (n := n) hn (fun k v h => by cases h) hM hk (by decide) fun qs _ h => by rw [hnone qs h]; decide
  obtain rfl := hnone qs hT.mem
  refine Rt.fin (Rt.cl e ?_)
  (repeat (first | (with_reducible (first | refine Rt.fin ?_ | refine Rt.tL ?_ | refine Rt.tI ?_ | refine Rt.tB ?_ | refine Rt.tS ?_ | refine Rt.tP ?_ | refine Rt.tD ?_ | refine Rt.tM ?_ | refine Rt.tC ?_ | refine Rt.tN ?_ | refine Rt.tA ?_ | refine Rt.tG ?_ | refine Rt.tF ?_ | refine Rt.os ?_ | refine Rt.clS ?_ | refine Rt.jmN ?_ | refine Rt.jbN ?_ | refine Rt.jbE ?_)) | ((with_reducible (first | apply Rt.ld0 | apply Rt.ld1 | apply Rt.ld2 | apply Rt.ld3 | apply Rt.ld4 | apply Rt.ld5)); first | assumption | exact Lc.kp (by assumption) (by assumption)) | ((with_reducible apply Rt.ol); first | assumption | exact cell_kp (by assumption) (by assumption)) | ((with_reducible apply Rt.ckR); focus ((repeat (first | (with_reducible (first | refine Rt.fin ?_ | refine Rt.tL ?_ | refine Rt.tI ?_ | refine Rt.tB ?_ | refine Rt.tS ?_ | refine Rt.tP ?_ | refine Rt.tD ?_ | refine Rt.tM ?_ | refine Rt.tC ?_ | refine Rt.tN ?_ | refine Rt.tA ?_ | refine Rt.tG ?_ | refine Rt.tF ?_ | refine Rt.os ?_ | refine Rt.clS ?_ | refine Rt.jmN ?_ | refine Rt.jbN ?_ | refine Rt.jbE ?_)) | ((with_reducible (first | apply Rt.ld0 | apply Rt.ld1 | apply Rt.ld2 | apply Rt.ld3 | apply Rt.ld4 | apply Rt.ld5)); first | assumption | exact Lc.kp (by assumption) (by assumption)) | ((with_reducible apply Rt.ol); first | assumption | exact cell_kp (by assumption) (by assumption)))); exact Rt.some' rfl))))
  have e32 : Rt (api_Pair_32 n [.slice A1 0 c1, .slice none 0 0, .func (.func 33) #[] #[]] w1) fun y => y = ([.bool true], w1) := by
    obtain ⟨n, rfl⟩ : ∃ n', n = n' + 1 := ⟨n - 1, by omega⟩
    rw [api_Pair_32_eq, api_Pair_32.l0_succ]
    refine Rt.fin (Rt.cN (fun _ => ?_) fun h => absurd rfl h)
    refine Rt.jb (Rt.cDF (by decide) (Rt.some' (.inl ⟨.inr rfl, ?_⟩)))
    exact Rt.tN (Rt.some' ⟨rfl, rfl⟩)
  obtain ⟨_, e, rfl⟩ := e32
  refine Rt.cl e ?_
  (repeat (first | (with_reducible (first | refine Rt.fin ?_ | refine Rt.tL ?_ | refine Rt.tI ?_ | refine Rt.tB ?_ | refine Rt.tS ?_ | refine Rt.tP ?_ | refine Rt.tD ?_ | refine Rt.tM ?_ | refine Rt.tC ?_ | refine Rt.tN ?_ | refine Rt.tA ?_ | refine Rt.tG ?_ | refine Rt.tF ?_ | refine Rt.os ?_ | refine Rt.clS ?_ | refine Rt.jmN ?_ | refine Rt.jbN ?_ | refine Rt.jbE ?_)) | ((with_reducible (first | apply Rt.ld0 | apply Rt.ld1 | apply Rt.ld2 | apply Rt.ld3 | apply Rt.ld4 | apply Rt.ld5)); first | assumption | exact Lc.kp (by assumption) (by assumption)) | ((with_reducible apply Rt.ol); first | assumption | exact cell_kp (by assumption) (by assumption)) | ((with_reducible apply Rt.ckR); focus ((repeat (first | (with_reducible (first | refine Rt.fin ?_ | refine Rt.tL ?_ | refine Rt.tI ?_ | refine Rt.tB ?_ | refine Rt.tS ?_ | refine Rt.tP ?_ | refine Rt.tD ?_ | refine Rt.tM ?_ | refine Rt.tC ?_ | refine Rt.tN ?_ | refine Rt.tA ?_ | refine Rt.tG ?_ | refine Rt.tF ?_ | refine Rt.os ?_ | refine Rt.clS ?_ | refine Rt.jmN ?_ | refine Rt.jbN ?_ | refine Rt.jbE ?_)) | ((with_reducible (first | apply Rt.ld0 | apply Rt.ld1 | apply Rt.ld2 | apply Rt.ld3 | apply Rt.ld4 | apply Rt.ld5)); first | assumption | exact Lc.kp (by assumption) (by assumption)) | ((with_reducible apply Rt.ol); first | assumption | exact cell_kp (by assumption) (by assumption)))); exact Rt.some' rfl))))
  exact Rt.endB (by simp) k1
theorem chosen0 (hn : 2 ^ 60 < n) : Rt (history_chosen n [.slice A 0 c, .slice B 0 d, .slice none 0 0] w) (RB True w) := by
  obtain ⟨n, rfl⟩ : ∃ n', n = n' + 1 := ⟨n - 1, by omega⟩
  rw [history_chosen_eq, history_chosen.l0_succ]
  refine Rt.fin (Rt.jb (Rt.cDF (by decide) (Rt.some' (.inl ⟨.inr rfl, ?_⟩))))
  dsimp only
  (repeat (first | (with_reducible (first | refine Rt.fin ?_ | refine Rt.tL ?_ | refine Rt.tI ?_ | refine Rt.tB ?_ | refine Rt.tS ?_ | refine Rt.tP ?_ | refine Rt.tD ?_ | refine Rt.tM ?_ | refine Rt.tC ?_ | refine Rt.tN ?_ | refine Rt.tA ?_ | refine Rt.tG ?_ | refine Rt.tF ?_ | refine Rt.os ?_ | refine Rt.clS ?_ | refine Rt.jmN ?_ | refine Rt.jbN ?_ | refine Rt.jbE ?_)) | ((with_reducible (first | apply Rt.ld0 | apply Rt.ld1 | apply Rt.ld2 | apply Rt.ld3 | apply Rt.ld4 | apply Rt.ld5)); first | assumption | exact Lc.kp (by assumption) (by assumption)) | ((with_reducible apply Rt.ol); first | assumption | exact cell_kp (by assumption) (by assumption)) | ((with_reducible apply Rt.ckR); focus ((repeat (first | (with_reducible (first | refine Rt.fin ?_ | refine Rt.tL ?_ | refine Rt.tI ?_ | refine Rt.tB ?_ | refine Rt.tS ?_ | refine Rt.tP ?_ | refine Rt.tD ?_ | refine Rt.tM ?_ | refine Rt.tC ?_ | refine Rt.tN ?_ | refine Rt.tA ?_ | refine Rt.tG ?_ | refine Rt.tF ?_ | refine Rt.os ?_ | refine Rt.clS ?_ | refine Rt.jmN ?_ | refine Rt.jbN ?_ | refine Rt.jbE ?_)) | ((with_reducible (first | apply Rt.ld0 | apply Rt.ld1 | apply Rt.ld2 | apply Rt.ld3 | apply Rt.ld4 | apply Rt.ld5)); first | assumption | exact Lc.kp (by assumption) (by assumption)) | ((with_reducible apply Rt.ol); first | assumption | exact cell_kp (by assumption) (by assumption)))); exact Rt.some' rfl))))
  rw [if_neg (by decide), history_chosen.l1_succ]
  refine Rt.jb (Rt.cDT (by decide) ?_)
  obtain ⟨_, e, rfl⟩ := made0 (n := n + 1) (A := A) (c := c) (B := B) (d := d) (w := w) hn
  refine Rt.cl e (Rt.tC (Rt.tM (Rt.tN ?_)))
  have k1 : Kp w (w.alloc (.map #[] 0)) := (Kp.rfl' w).al _
  refine Rt.cBt (same0 (n := n + 1) hn (Mk.new (ws := w) (w := w)) k1) trivial fun w2 k2 => Rt.cT rfl ?_
  exact Rt.some' (.inr ⟨rfl, rfl, true, w2, rfl, by simp, k1.tr k2⟩)
theorem Prefix0 (hn : 2 ^ 60 < n) : Rt (history_Prefix n [.slice none 0 0, .slice none 0 0, .int .i64 0, .slice none 0 0] w) (RB True w) := by
  rw [history_Prefix_eq]
  refine Rt.fin (Rt.make0 fun A w1 k1 => ?_)
  (repeat (first | (with_reducible (first | refine Rt.fin ?_ | refine Rt.tL ?_ | refine Rt.tI ?_ | refine Rt.tB ?_ | refine Rt.tS ?_ | refine Rt.tP ?_ | refine Rt.tD ?_ | refine Rt.tM ?_ | refine Rt.tC ?_ | refine Rt.tN ?_ | refine Rt.tA ?_ | refine Rt.tG ?_ | refine Rt.tF ?_ | refine Rt.os ?_ | refine Rt.clS ?_ | refine Rt.jmN ?_ | refine Rt.jbN ?_ | refine Rt.jbE ?_)) | ((with_reducible (first | apply Rt.ld0 | apply Rt.ld1 | apply Rt.ld2 | apply Rt.ld3 | apply Rt.ld4 | apply Rt.ld5)); first | assumption | exact Lc.kp (by assumption) (by assumption)) | ((with_reducible apply Rt.ol); first | assumption | exact cell_kp (by assumption) (by assumption)) | ((with_reducible apply Rt.ckR); focus ((repeat (first | (with_reducible (first | refine Rt.fin ?_ | refine Rt.tL ?_ | refine Rt.tI ?_ | refine Rt.tB ?_ | refine Rt.tS ?_ | refine Rt.tP ?_ | refine Rt.tD ?_ | refine Rt.tM ?_ | refine Rt.tC ?_ | refine Rt.tN ?_ | refine Rt.tA ?_ | refine Rt.tG ?_ | refine Rt.tF ?_ | refine Rt.os ?_ | refine Rt.clS ?_ | refine Rt.jmN ?_ | refine Rt.jbN ?_ | refine Rt.jbE ?_)) | ((with_reducible (first | apply Rt.ld0 | apply Rt.ld1 | apply Rt.ld2 | apply Rt.ld3 | apply Rt.ld4 | apply Rt.ld5)); first | assumption | exact Lc.kp (by assumption) (by assumption)) | ((with_reducible apply Rt.ol); first | assumption | exact cell_kp (by assumption) (by assumption)))); exact Rt.some' rfl))))
  rw [rn_run (copy0 A w1)]
  obtain ⟨n, rfl⟩ : ∃ n', n = n' + 1 := ⟨n - 1, by omega⟩
  rw [history_Prefix.l0_succ]
  refine Rt.jb (Rt.cDF (by decide) (Rt.some' (.inl ⟨.inr rfl, ?_⟩)))
  dsimp only
  (repeat (first | (with_reducible (first | refine Rt.fin ?_ | refine Rt.tL ?_ | refine Rt.tI ?_ | refine Rt.tB ?_ | refine Rt.tS ?_ | refine Rt.tP ?_ | refine Rt.tD ?_ | refine Rt.tM ?_ | refine Rt.tC ?_ | refine Rt.tN ?_ | refine Rt.tA ?_ | refine Rt.tG ?_ | refine Rt.tF ?_ | refine Rt.os ?_ | refine Rt.clS ?_ | refine Rt.jmN ?_ | refine Rt.jbN ?_ | refine Rt.jbE ?_)) | ((with_reducible (first | apply Rt.ld0 | apply Rt.ld1 | apply Rt.ld2 | apply Rt.ld3 | apply Rt.ld4 | apply Rt.ld5)); first | assumption | exact Lc.kp (by assumption) (by assumption)) | ((with_reducible apply Rt.ol); first | assumption | exact cell_kp (by assumption) (by assumption)) | ((with_reducible apply Rt.ckR); focus ((repeat (first | (with_reducible (first | refine Rt.fin ?_ | refine Rt.tL ?_ | refine Rt.tI ?_ | refine Rt.tB ?_ | refine Rt.tS ?_ | refine Rt.tP ?_ | refine Rt.tD ?_ | refine Rt.tM ?_ | refine Rt.tC ?_ | refine Rt.tN ?_ | refine Rt.tA ?_ | refine Rt.tG ?_ | refine Rt.tF ?_ | refine Rt.os ?_ | refine Rt.clS ?_ | refine Rt.jmN ?_ | refine Rt.jbN ?_ | refine Rt.jbE ?_)) | ((with_reducible (first | apply Rt.ld0 | apply Rt.ld1 | apply Rt.ld2 | apply Rt.ld3 | apply Rt.ld4 | apply Rt.ld5)); first | assumption | exact Lc.kp (by assumption) (by assumption)) | ((with_reducible apply Rt.ol); first | assumption | exact cell_kp (by assumption) (by assumption)))); exact Rt.some' rfl))))
  refine Rt.cDF (by decide) ?_
  rw [history_Prefix.l1_succ]
  refine Rt.jb (Rt.cDT (by decide) (Rt.jb (Rt.cQ (fun _ => ?_) fun h => absurd rfl h)))
  refine Rt.jmX (Rt.cDT (by decide) (Rt.cut0 fun X => Rt.cut0 fun Y => ?_))
  have kd : Kp w1 w1.drew := (Kp.rfl' w1).dr
  refine Rt.cBt (chosen0 (n := n + 1) hn) trivial fun w2 k2 => Rt.cT rfl ?_
  exact Rt.some' (.inr ⟨by simp, .inr ⟨rfl, .inr ⟨rfl, rfl, true, w2, rfl, by simp, (k1.tr kd).tr k2⟩⟩⟩)
theorem alive_spec (hn : 2 ^ 60 < n) : Rt (butterylaw22_alive n [] w) (RB True w) := by
  rw [butterylaw22_alive_eq]
  obtain ⟨_, e, w1, rfl, k1, hm1⟩ := New_spec (n := n) (w := w)
  refine Rt.fin (Rt.cl e ?_)
  (repeat (first | (with_reducible (first | refine Rt.fin ?_ | refine Rt.tL ?_ | refine Rt.tI ?_ | refine Rt.tB ?_ | refine Rt.tS ?_ | refine Rt.tP ?_ | refine Rt.tD ?_ | refine Rt.tM ?_ | refine Rt.tC ?_ | refine Rt.tN ?_ | refine Rt.tA ?_ | refine Rt.tG ?_ | refine Rt.tF ?_ | refine Rt.os ?_ | refine Rt.clS ?_ | refine Rt.jmN ?_ | refine Rt.jbN ?_ | refine Rt.jbE ?_)) | ((with_reducible (first | apply Rt.ld0 | apply Rt.ld1 | apply Rt.ld2 | apply Rt.ld3 | apply Rt.ld4 | apply Rt.ld5)); first | assumption | exact Lc.kp (by assumption) (by assumption)) | ((with_reducible apply Rt.ol); first | assumption | exact cell_kp (by assumption) (by assumption)) | ((with_reducible apply Rt.ckR); focus ((repeat (first | (with_reducible (first | refine Rt.fin ?_ | refine Rt.tL ?_ | refine Rt.tI ?_ | refine Rt.tB ?_ | refine Rt.tS ?_ | refine Rt.tP ?_ | refine Rt.tD ?_ | refine Rt.tM ?_ | refine Rt.tC ?_ | refine Rt.tN ?_ | refine Rt.tA ?_ | refine Rt.tG ?_ | refine Rt.tF ?_ | refine Rt.os ?_ | refine Rt.clS ?_ | refine Rt.jmN ?_ | refine Rt.jbN ?_ | refine Rt.jbE ?_)) | ((with_reducible (first | apply Rt.ld0 | apply Rt.ld1 | apply Rt.ld2 | apply Rt.ld3 | apply Rt.ld4 | apply Rt.ld5)); first | assumption | exact Lc.kp (by assumption) (by assumption)) | ((with_reducible apply Rt.ol); first | assumption | exact cell_kp (by assumption) (by assumption)))); exact Rt.some' rfl))))
  refine Rt.cF rfl ?_
  refine Rt.lit conv [97] 1 rfl rfl (by decide) (by decide) fun A2 w2 b2 k2 => Rt.tL ?_
  refine Rt.lit conv [98] 1 rfl rfl (by decide) (by decide) fun A3 w3 b3 k3 => Rt.tL ?_
  refine Rt.al fun w4 l4 k4 s4 => ?_
  have hev : Ev opEl w4 (some ⟨w3.heap.size, 0, none⟩) 1 1 [⟨1, [97], [98]⟩] := l4.ev1 ⟨_, _, _, _, _, _, rfl, (b2.kp k3).kp k4, b3.kp k4⟩ rfl
  have k14 := (k2.tr k3).tr k4
  have k04 := k1.tr k14
  obtain ⟨_, e, w5, rfl, hm5, g5⟩ := Apply_spec (n := n) (hm1.kp k14) hev (by decide) (by decide) (by decide) k04.size hn
  refine Rt.cl e (Rt.tN ?_)
  have k05 := k04.tx g5 fun j hj => hj
  refine Rt.lit conv [97] 1 rfl rfl (by decide) (by decide) fun A6 w6 b6 k6 => Rt.tL ?_
  have hF : Fit ([] ++ [[(⟨1, [97], [98]⟩ : OpD)]]) := by
    refine ⟨by decide, fun ops hops => ?_⟩
    have : ops = [(⟨1, [97], [98]⟩ : OpD)] := by simpa using hops
    subst this
    refine ⟨by decide, fun o ho => ?_⟩
    have : o = (⟨1, [97], [98]⟩ : OpD) := by simpa using ho
    subst this
    exact ⟨by decide, by decide⟩
  obtain ⟨_, e, B7, m7, d7, w7, rfl, o7, r7, k7⟩ := Get_spec (n := n) hn (hm5.kp k6) hF b6 (by decide) (v := [98]) (by rfl) (by decide)
  refine Rt.cl e ?_
  (repeat (first | (with_reducible (first | refine Rt.fin ?_ | refine Rt.tL ?_ | refine Rt.tI ?_ | refine Rt.tB ?_ | refine Rt.tS ?_ | refine Rt.tP ?_ | refine Rt.tD ?_ | refine Rt.tM ?_ | refine Rt.tC ?_ | refine Rt.tN ?_ | refine Rt.tA ?_ | refine Rt.tG ?_ | refine Rt.tF ?_ | refine Rt.os ?_ | refine Rt.clS ?_ | refine Rt.jmN ?_ | refine Rt.jbN ?_ | refine Rt.jbE ?_)) | ((with_reducible (first | apply Rt.ld0 | apply Rt.ld1 | apply Rt.ld2 | apply Rt.ld3 | apply Rt.ld4 | apply Rt.ld5)); first | assumption | exact Lc.kp (by assumption) (by assumption)) | ((with_reducible apply Rt.ol); first | assumption | exact cell_kp (by assumption) (by assumption)) | ((with_reducible apply Rt.ckR); focus ((repeat (first | (with_reducible (first | refine Rt.fin ?_ | refine Rt.tL ?_ | refine Rt.tI ?_ | refine Rt.tB ?_ | refine Rt.tS ?_ | refine Rt.tP ?_ | refine Rt.tD ?_ | refine Rt.tM ?_ | refine Rt.tC ?_ | refine Rt.tN ?_ | refine Rt.tA ?_ | refine Rt.tG ?_ | refine Rt.tF ?_ | refine Rt.os ?_ | refine Rt.clS ?_ | refine Rt.jmN ?_ | refine Rt.jbN ?_ | refine Rt.jbE ?_)) | ((with_reducible (first | apply Rt.ld0 | apply Rt.ld1 | apply Rt.ld2 | apply Rt.ld3 | apply Rt.ld4 | apply Rt.ld5)); first | assumption | exact Lc.kp (by assumption) (by assumption)) | ((with_reducible apply Rt.ol); first | assumption | exact cell_kp (by assumption) (by assumption)))); exact Rt.some' rfl))))
  refine Rt.cT rfl (Rt.str (o7.bv r7) (Rt.cT (by rw [show Big.str [98] = (⟨#[98]⟩ : ByteArray) from rfl]; simp) ?_))
  refine Rt.cBt (Prefix0 (n := n) hn) trivial fun w8 k8 => ?_
  exact Rt.endB (by simp) (((k05.tr k6).tr k7).tr k8)
end
end Go.Proofs.Ytdcdgmiojlldaaa.Hi
