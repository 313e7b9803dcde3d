/- A sorted buffer: the example of the document; entries put in; a sorted row. -/
import Derived.Test.YtoilmnplocfipaaS9
namespace Go.Proofs.Ytoilmnplocfipaa.Sk
open Go Big Go.RowKit Go.IntWalk Ik
set_option linter.unusedVariables false
set_option linter.unusedSimpArgs false
def srtA (ks : List (En × Nat)) : Prop := ks.Pairwise fun y z => cmpK y.1.k z.1.k < 0
theorem cmpK_refl0 (k : Key) : cmpK k k = 0 := (cmpK_zero k k).2 ⟨rfl, rfl, rfl⟩
theorem srt_cut : ∀ {ks : List (En × Nat)} {i : Nat} {y : En × Nat}, srtA ks → ks[i]? = some y → ks.takeWhile (belA y.1.k) = ks.take i ∧ ks.dropWhile (belA y.1.k) = ks.drop i
  | [], i, y, _, h => by simp at h
  | x :: l, 0, y, hs, h => by
    simp at h
    subst h
    have : belA x.1.k x = false := by simp [belA, cmpK_refl0]
    rw [List.takeWhile_cons_of_neg (by simp [this]), List.dropWhile_cons_of_neg (by simp [this])]
    exact ⟨rfl, rfl⟩
  | x :: l, i + 1, y, hs, h => by
    obtain ⟨h1, h2⟩ := List.pairwise_cons.1 hs
    have hy : l[i]? = some y := by simpa using h
    have hb : belA y.1.k x = true := by simpa [belA] using h1 y (List.mem_of_getElem? hy)
    obtain ⟨e1, e2⟩ := srt_cut h2 hy
    rw [List.takeWhile_cons_of_pos hb, List.dropWhile_cons_of_pos hb, e1, e2]
    exact ⟨rfl, rfl⟩
theorem seek_at {ks : List (En × Nat)} {i : Nat} {y : En × Nat} (hs : srtA ks) (h : ks[i]? = some y) : seekA y.1.k ks = some y.1 := by
  unfold seekA
  rw [(srt_cut hs h).2, List.head?_drop, h]; rfl
theorem before_at {ks : List (En × Nat)} {i : Nat} {y : En × Nat} (hs : srtA ks) (h : ks[i]? = some y) : beforeA y.1.k ks = if i = 0 then none else (ks.map Prod.fst)[i - 1]? := by
  unfold beforeA
  rw [(srt_cut hs h).1]
  have hl := (List.getElem?_eq_some_iff.1 h).1
  by_cases h0 : i = 0
  · subst h0; simp
  · rw [if_neg h0, List.getLast?_eq_getElem?, List.length_take, Nat.min_eq_left (by omega), List.getElem?_take_of_lt (by omega), List.getElem?_map]
/-- What is made of the first i entries. -/
noncomputable def accA (xs : List En) (hs : List Int) : Nat → List (En × Nat)
  | 0 => []
  | i + 1 => match xs[i]?, hs[i]? with
    | some x, some h => (insA x h (accA xs hs i)).2
    | _, _ => accA xs hs i
theorem accA_succ {xs : List En} {hs : List Int} {i : Nat} {x : En} {h : Int} (h1 : xs[i]? = some x) (h2 : hs[i]? = some h) : accA xs hs (i + 1) = (insA x h (accA xs hs i)).2 := by
  show (match xs[i]?, hs[i]? with
    | some x, some h => (insA x h (accA xs hs i)).2
    | _, _ => accA xs hs i) = _
  rw [h1, h2]
theorem putA_len {x : En} {h : Nat} {ks : List (En × Nat)} : (putA x h ks).length = ks.length + 1 := by
  unfold putA
  have := congrArg List.length (List.takeWhile_append_dropWhile (p := belA x.k) (l := ks))
  rw [List.length_append] at this
  rw [List.length_append, List.length_cons]; omega
theorem insA_len {x : En} {h : Int} {ks : List (En × Nat)} : (insA x h ks).2.length ≤ ks.length + 1 := by
  unfold insA
  by_cases h1 : ¬ rightE x
  · rw [if_pos h1]; exact Nat.le_succ _
  · rw [if_neg h1]
    by_cases h2 : ∃ y ∈ ks, cmpK y.1.k x.k = 0
    · rw [if_pos h2]; exact Nat.le_succ _
    · rw [if_neg h2]; exact Nat.le_of_eq putA_len
theorem accA_len {xs : List En} {hs : List Int} : ∀ i, (accA xs hs i).length ≤ i
  | 0 => Nat.le_refl _
  | i + 1 => by
    have ih := accA_len (xs := xs) (hs := hs) i
    cases h1 : xs[i]? with
    | none => simp only [accA, h1]; omega
    | some x =>
      cases h2 : hs[i]? with
      | none => simp only [accA, h1, h2]; omega
      | some h => rw [accA_succ h1 h2]; have := insA_len (x := x) (h := h) (ks := accA xs hs i); omega
section
variable {α : Type} {Q : α → Prop} {n base b : Nat} {w w' w0 : World} {S T R : Nat → Prop} {s : St} {A B : Option Addr} {c l m d a1 a2 : Nat} {nv : List Nw} {ord : List Nat} {k : Key} {ks : List (En × Nat)} {x : En} {xs : List En} {hs : List Int} {o : Option En} {s0 k0 : Int} {v : Value}
theorem SkA.srt (h : SkA w base b S ks) : srtA ks := by
  obtain ⟨⟨s, ord, hS, hi, hks, hby⟩, hok⟩ := h
  unfold srtA
  rw [hks, List.pairwise_map]
  refine List.Pairwise.imp_of_mem (fun {i j} hi' hj' h => ?_) hi.srt
  obtain ⟨y, _, e1, e2, _⟩ := prA_at hi hi'
  obtain ⟨z, _, e3, e4, _⟩ := prA_at hi hj'
  rw [e1, e3]
  rw [e2, e4] at h
  exact h
theorem num_run (n : Nat) (x : Int) (w : World) : Rt (butterylaw9_num n [.int .i64 x] w) (RI .i64 x w) := by
  rw [butterylaw9_num_eq]
  exact Rt.fin (Rt.endI rfl (Kp.rfl' _))
theorem Rt.cRF {vs : List Value} {P : (Nat → Prop) → World → Prop} {x : Option (List Value × World)} (h : Rt x (RF S w0 vs P)) {f : List Value → World → Option α} (hf : ∀ w1 S', Gx S w0 w1 → (∀ j, S' j → S j ∨ w0.heap.size ≤ j) → P S' w1 → Rt (f vs w1) Q) : Rt (Big.cl x f) Q := by
  obtain ⟨_, rfl, w1, S', rfl, h1, h2, h3⟩ := h
  exact hf w1 S' h1 h2 h3
theorem Rt.cNew {x : Option (List Value × World)} (h : Rt x fun r => ∃ w' b S, r = ([pt b], w') ∧ Kp w0 w' ∧ SkA w' base b S [] ∧ ∀ j, S j → w0.heap.size ≤ j) {f : List Value → World → Option α} (hf : ∀ w1 b S, Kp w0 w1 → SkA w1 base b S [] → (∀ j, S j → w0.heap.size ≤ j) → Rt (f [pt b] w1) Q) : Rt (Big.cl x f) Q := by
  obtain ⟨_, rfl, w1, b, S, rfl, h1, h2, h3⟩ := h
  exact hf w1 b S h1 h2 h3
theorem ins0 : insA ⟨[97], 1, 1, []⟩ 1 [] = (0, [(⟨[97], 1, 1, []⟩, 1)]) := by
  unfold insA
  rw [if_neg (fun h => h ⟨⟨by decide, by decide, by decide, .inr rfl⟩, by decide, fun _ => rfl⟩), if_neg (by rintro ⟨y, hy, _⟩; cases hy)]
  rfl
theorem alive_spec (hn : 2 ^ 60 < n) : Rt (butterylaw9_alive n [] w) (RB True w) := by
  rw [butterylaw9_alive_eq]
  refine Rt.fin (Rt.cNew (New_spec (base := w.heap.size) (Nat.le_refl _) (by omega)) fun w1 b S k1 h1 hS => ?_)
  (repeat (first | (with_reducible (first | refine Rt.fin ?_ | refine Rt.tL ?_ | refine Rt.tI ?_ | refine Rt.tB ?_ | refine Rt.tS ?_ | refine Rt.tP ?_ | refine Rt.tD ?_ | refine Rt.tM ?_ | refine Rt.tC ?_ | refine Rt.tN ?_ | refine Rt.tA ?_ | refine Rt.tG ?_ | refine Rt.tF ?_ | refine Rt.os ?_ | refine Rt.clS ?_ | refine Rt.jmN ?_ | refine Rt.jbN ?_ | refine Rt.jbE ?_)) | ((with_reducible (first | apply Rt.ld0 | apply Rt.ld1 | apply Rt.ld2 | apply Rt.ld3 | apply Rt.ld4 | apply Rt.ld5)); first | assumption | exact Lc.kp (by assumption) (by assumption)) | ((with_reducible apply Rt.ol); first | assumption | exact cell_kp (by assumption) (by assumption)) | ((with_reducible apply Rt.ckR); focus ((repeat (first | (with_reducible (first | refine Rt.fin ?_ | refine Rt.tL ?_ | refine Rt.tI ?_ | refine Rt.tB ?_ | refine Rt.tS ?_ | refine Rt.tP ?_ | refine Rt.tD ?_ | refine Rt.tM ?_ | refine Rt.tC ?_ | refine Rt.tN ?_ | refine Rt.tA ?_ | refine Rt.tG ?_ | refine Rt.tF ?_ | refine Rt.os ?_ | refine Rt.clS ?_ | refine Rt.jmN ?_ | refine Rt.jbN ?_ | refine Rt.jbE ?_)) | ((with_reducible (first | apply Rt.ld0 | apply Rt.ld1 | apply Rt.ld2 | apply Rt.ld3 | apply Rt.ld4 | apply Rt.ld5)); first | assumption | exact Lc.kp (by assumption) (by assumption)) | ((with_reducible apply Rt.ol); first | assumption | exact cell_kp (by assumption) (by assumption)))); exact Rt.some' rfl))))
  refine Rt.cF rfl ?_
  refine Rt.cI (Bytes_spec (n := n) h1) fun w2 k2 => ?_
  refine Rt.lit conv [97] 1 rfl rfl (by decide) (by decide) fun A w3 b3 k3 => ?_
  (repeat (first | (with_reducible (first | refine Rt.fin ?_ | refine Rt.tL ?_ | refine Rt.tI ?_ | refine Rt.tB ?_ | refine Rt.tS ?_ | refine Rt.tP ?_ | refine Rt.tD ?_ | refine Rt.tM ?_ | refine Rt.tC ?_ | refine Rt.tN ?_ | refine Rt.tA ?_ | refine Rt.tG ?_ | refine Rt.tF ?_ | refine Rt.os ?_ | refine Rt.clS ?_ | refine Rt.jmN ?_ | refine Rt.jbN ?_ | refine Rt.jbE ?_)) | ((with_reducible (first | apply Rt.ld0 | apply Rt.ld1 | apply Rt.ld2 | apply Rt.ld3 | apply Rt.ld4 | apply Rt.ld5)); first | assumption | exact Lc.kp (by assumption) (by assumption)) | ((with_reducible apply Rt.ol); first | assumption | exact cell_kp (by assumption) (by assumption)) | ((with_reducible apply Rt.ckR); focus ((repeat (first | (with_reducible (first | refine Rt.fin ?_ | refine Rt.tL ?_ | refine Rt.tI ?_ | refine Rt.tB ?_ | refine Rt.tS ?_ | refine Rt.tP ?_ | refine Rt.tD ?_ | refine Rt.tM ?_ | refine Rt.tC ?_ | refine Rt.tN ?_ | refine Rt.tA ?_ | refine Rt.tG ?_ | refine Rt.tF ?_ | refine Rt.os ?_ | refine Rt.clS ?_ | refine Rt.jmN ?_ | refine Rt.jbN ?_ | refine Rt.jbE ?_)) | ((with_reducible (first | apply Rt.ld0 | apply Rt.ld1 | apply Rt.ld2 | apply Rt.ld3 | apply Rt.ld4 | apply Rt.ld5)); first | assumption | exact Lc.kp (by assumption) (by assumption)) | ((with_reducible apply Rt.ol); first | assumption | exact cell_kp (by assumption) (by assumption)))); exact Rt.some' rfl))))
  refine Rt.cRF (Insert_spec (x := ⟨[97], 1, 1, []⟩) (H := 1) ((h1.kp k2).kp k3) ⟨b3, rfl, rfl, by decide, by decide, bv_nil⟩ (by have := k1.size; have := k2.size; have := k3.size; omega) (by decide) hn) fun w4 S' g4 z4 h4 => ?_
  rw [ins0] at h4 ⊢
  (repeat (first | (with_reducible (first | refine Rt.fin ?_ | refine Rt.tL ?_ | refine Rt.tI ?_ | refine Rt.tB ?_ | refine Rt.tS ?_ | refine Rt.tP ?_ | refine Rt.tD ?_ | refine Rt.tM ?_ | refine Rt.tC ?_ | refine Rt.tN ?_ | refine Rt.tA ?_ | refine Rt.tG ?_ | refine Rt.tF ?_ | refine Rt.os ?_ | refine Rt.clS ?_ | refine Rt.jmN ?_ | refine Rt.jbN ?_ | refine Rt.jbE ?_)) | ((with_reducible (first | apply Rt.ld0 | apply Rt.ld1 | apply Rt.ld2 | apply Rt.ld3 | apply Rt.ld4 | apply Rt.ld5)); first | assumption | exact Lc.kp (by assumption) (by assumption)) | ((with_reducible apply Rt.ol); first | assumption | exact cell_kp (by assumption) (by assumption)) | ((with_reducible apply Rt.ckR); focus ((repeat (first | (with_reducible (first | refine Rt.fin ?_ | refine Rt.tL ?_ | refine Rt.tI ?_ | refine Rt.tB ?_ | refine Rt.tS ?_ | refine Rt.tP ?_ | refine Rt.tD ?_ | refine Rt.tM ?_ | refine Rt.tC ?_ | refine Rt.tN ?_ | refine Rt.tA ?_ | refine Rt.tG ?_ | refine Rt.tF ?_ | refine Rt.os ?_ | refine Rt.clS ?_ | refine Rt.jmN ?_ | refine Rt.jbN ?_ | refine Rt.jbE ?_)) | ((with_reducible (first | apply Rt.ld0 | apply Rt.ld1 | apply Rt.ld2 | apply Rt.ld3 | apply Rt.ld4 | apply Rt.ld5)); first | assumption | exact Lc.kp (by assumption) (by assumption)) | ((with_reducible apply Rt.ol); first | assumption | exact cell_kp (by assumption) (by assumption)))); exact Rt.some' rfl))))
  refine Rt.cT (by decide) ?_
  refine Rt.cI (num_run n _ _) fun w5 k5 => Rt.cT rfl ?_
  refine Rt.cI (Len_spec (n := n) (h4.kp k5)) fun w6 k6 => Rt.cT (by decide) ?_
  refine Rt.cI (Bytes_spec (n := n) ((h4.kp k5).kp k6)) fun w7 k7 => ?_
  have k03 := (k1.tr k2).tr k3
  exact Rt.endB (by decide) (((k03.tx g4 fun j hj => hS j hj).tr k5).tr (k6.tr k7))
theorem int_at (hv : Bv .i64 w B m d hs) {i : Nat} (hi : i < m) : ∃ h, hs[i]? = some h ∧ hs.getD i 0 = h := by
  have hl : hs.length = m := hv.len
  exact ⟨hs[i]'(by omega), List.getElem?_eq_getElem _, by simp [List.getD_eq_getElem?_getD, List.getElem?_eq_getElem (show i < hs.length by omega)]⟩
end
end Go.Proofs.Ytoilmnplocfipaa.Sk
