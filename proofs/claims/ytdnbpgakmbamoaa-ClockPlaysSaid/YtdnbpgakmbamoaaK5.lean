/- ClockTurns: the walk. -/
import Derived.Test.YtdnbpgakmbamoaaK4
namespace Go.Proofs.Ytdnbpgakmbamoaa.Ck
open Go Big Go.RowKit Go.IntWalk
set_option linter.unusedVariables false
set_option linter.unusedSimpArgs false
section
variable {α : Type} {Q : α → Prop} {n base cb N : Nat} {w w' w0 : World} {S T R : Nat → Prop} {s s' : Ca} {A B : Option Addr} {c m d : Nat} {f p k : Int} {bs : List Int}
theorem Cs.tight (h : Cs w base cb S s) : Cs w base cb (fun j => S j ∧ base ≤ j ∧ j < w.heap.size) s := by
  obtain ⟨R, A, c, gs, h1, h2⟩ := h
  exact ⟨R, A, c, gs, h1, fun j hj => ⟨h2 j hj, (h2 j hj).2⟩⟩
theorem Cs.wide (h : Cs w base cb S s) (hs : ∀ j, S j → T j) : Cs w base cb T s := by
  obtain ⟨R, A, c, gs, h1, h2⟩ := h
  exact ⟨R, A, c, gs, h1, fun j hj => ⟨hs j (h2 j hj).1, (h2 j hj).2⟩⟩
theorem Rt.cGet {x : Option (List Value × World)} {o : Option (List Int)} (h : Rt x (RGet S base cb w o s)) {F : List Value → World → Option α} (hf : ∀ B m d w1, Bv .u8 w1 B m d (o.getD []) → (∀ j, On (.slice B m d) j → w.heap.size ≤ j) → Own .u8 5 w1 w.heap.size (.slice B m d) (o.getD []) → Gx S w w1 → Cs w1 base cb S s → Rt (F [.slice B m d, .bool o.isSome] w1) Q) : Rt (Big.cl x F) Q := by
  obtain ⟨_, rfl, B, m, d, w1, rfl, h1, h2, h3, h4, h5⟩ := h
  exact hf B m d w1 h1 h2 h3 h4 h5
theorem Rt.cSt {vs : List Value} {x : Option (List Value × World)} (h : Rt x fun r => ∃ w1, r = (vs, w1) ∧ Gx S w w1 ∧ Cs w1 base cb S s) {F : List Value → World → Option α} (hf : ∀ w1, Gx S w w1 → Cs w1 base cb S s → Rt (F vs w1) Q) : Rt (Big.cl x F) Q := by
  obtain ⟨_, rfl, w1, rfl, h1, h2⟩ := h
  exact hf w1 h1 h2
/-- Put: the footprint after it holds only what there is. -/
theorem Rt.cPut (h : Cs w base cb S s) (ho : Ok N s) (hN : N < 2 ^ 20) (hB : Stb S (fun w => Bv .u8 w B m d bs) w) (hm : m ≤ 2 ^ 20) (hb : base ≤ w.heap.size) (hn : 2 ^ 60 < n) {F : List Value → World → Option α}
    (hf : ∀ w1 S', Gx S w w1 → (∀ j, S' j → (S j ∨ w.heap.size ≤ j) ∧ base ≤ j ∧ j < w1.heap.size) → Cs w1 base cb S' (putS n s f p bs).1 → Rt (F [.bool (putS n s f p bs).2] w1) Q) : Rt (Big.cl (clock_Cache_Put n [pt cb, .int .i64 f, .int .i64 p, .slice B m d] w) F) Q := by
  obtain ⟨_, e, w1, S', rfl, h1, h2, h3⟩ := Put_spec (f := f) (p := p) h ho hN hB hm hb hn
  rw [e]
  exact hf w1 _ h1 (fun j hj => ⟨h2 j hj.1, hj.2⟩) h3.tight
theorem Rt.cLit (h : Cs w base cb S s) (hlt : ∀ j, S j → j < w.heap.size) (ho : Ok N s) (hN : N < 2 ^ 20) (hb : base ≤ w.heap.size) (hn : 2 ^ 60 < n) {F : List Value → World → Option α}
    (hf : ∀ w1 S', Gx S w w1 → (∀ j, S' j → (S j ∨ w.heap.size ≤ j) ∧ base ≤ j ∧ j < w1.heap.size) → Cs w1 base cb S' (putS n s f p [1]).1 → Rt (F [.bool (putS n s f p [1]).2] w1) Q) : Rt (Big.al w #[.int .u8 1] 5 fun w1 => Big.cl (clock_Cache_Put n [pt cb, .int .i64 f, .int .i64 p, .slice (some ⟨w.heap.size, 0, none⟩) 1 1] w1) F) Q := by
  refine Rt.alo (k := .u8) [1] 1 rfl rfl (by decide) fun w1 o1 k1 => ?_
  refine Rt.cPut (h.kp k1) ho hN (fun w2 g2 => (o1.gx g2 fun j hj hs => by have := (o1.lt j hj).1; have := hlt j hs; omega).bv (by decide)) (by decide) (Nat.le_trans hb k1.size) hn fun w2 S' g2 hs h2 => ?_
  exact hf w2 S' (k1.gx.tr g2) (fun j hj => ⟨(hs j hj).1.imp id fun e => Nat.le_trans k1.size e, (hs j hj).2⟩) h2
theorem findI0 (f p : Int) : findI [] f p = none := rfl
theorem put_new {N' : Nat} {r : Int} (hr : 1 ≤ r) : putS N' ⟨r, 0, [], 0⟩ 1 0 [1] = (⟨r, 1, [⟨1, 0, [1], 1, true⟩], 0⟩, true) := by
  have e : freeS N' ⟨r, 0, [], 0⟩ (([1] : List Int).length : Int) = (⟨r, 0, [], 0⟩, true) := free_yes (by show (1 : Int) ≤ r - 0; omega)
  unfold putS
  rw [e]
  rfl
theorem put_none {N' : Nat} : putS N' ⟨0, 0, [], 0⟩ 1 0 [1] = (⟨0, 0, [], 0⟩, false) := by
  have e : freeS N' ⟨0, 0, [], 0⟩ (([1] : List Int).length : Int) = (⟨0, 0, [], 0⟩, false) := free_no (by decide) rfl
  unfold putS
  rw [e]
  rfl
theorem alive_spec (hn : 2 ^ 60 < n) : Rt (butterylaw14_alive n [] w) (RB True w) := by
  rw [butterylaw14_alive_eq]
  obtain ⟨_, e, w1, rfl, k1, h1, z1⟩ := New_spec (base := w.heap.size) (w := w) (n := n) (r := 0) (Nat.le_refl _)
  refine Rt.fin (Rt.cl e ?_)
  (repeat (first | (with_reducible (first | refine Rt.fin ?_ | refine Rt.tL ?_ | refine Rt.tI ?_ | refine Rt.tB ?_ | refine Rt.tS ?_ | refine Rt.tP ?_ | refine Rt.tD ?_ | refine Rt.tM ?_ | refine Rt.tC ?_ | refine Rt.tN ?_ | refine Rt.tA ?_ | refine Rt.tG ?_ | refine Rt.tF ?_ | refine Rt.os ?_ | refine Rt.clS ?_ | refine Rt.jmN ?_ | refine Rt.jbN ?_ | refine Rt.jbE ?_)) | ((with_reducible (first | apply Rt.ld0 | apply Rt.ld1 | apply Rt.ld2 | apply Rt.ld3 | apply Rt.ld4 | apply Rt.ld5)); first | assumption | exact Lc.kp (by assumption) (by assumption)) | ((with_reducible apply Rt.ol); first | assumption | exact cell_kp (by assumption) (by assumption)) | ((with_reducible apply Rt.ckR); focus ((repeat (first | (with_reducible (first | refine Rt.fin ?_ | refine Rt.tL ?_ | refine Rt.tI ?_ | refine Rt.tB ?_ | refine Rt.tS ?_ | refine Rt.tP ?_ | refine Rt.tD ?_ | refine Rt.tM ?_ | refine Rt.tC ?_ | refine Rt.tN ?_ | refine Rt.tA ?_ | refine Rt.tG ?_ | refine Rt.tF ?_ | refine Rt.os ?_ | refine Rt.clS ?_ | refine Rt.jmN ?_ | refine Rt.jbN ?_ | refine Rt.jbE ?_)) | ((with_reducible (first | apply Rt.ld0 | apply Rt.ld1 | apply Rt.ld2 | apply Rt.ld3 | apply Rt.ld4 | apply Rt.ld5)); first | assumption | exact Lc.kp (by assumption) (by assumption)) | ((with_reducible apply Rt.ol); first | assumption | exact cell_kp (by assumption) (by assumption)))); exact Rt.some' rfl))))
  obtain ⟨_, e, w2, rfl, k2, h2, z2⟩ := New_spec (base := w.heap.size) (w := w1) (n := n) (r := 5) (by omega)
  refine Rt.cl e ?_
  (repeat (first | (with_reducible (first | refine Rt.fin ?_ | refine Rt.tL ?_ | refine Rt.tI ?_ | refine Rt.tB ?_ | refine Rt.tS ?_ | refine Rt.tP ?_ | refine Rt.tD ?_ | refine Rt.tM ?_ | refine Rt.tC ?_ | refine Rt.tN ?_ | refine Rt.tA ?_ | refine Rt.tG ?_ | refine Rt.tF ?_ | refine Rt.os ?_ | refine Rt.clS ?_ | refine Rt.jmN ?_ | refine Rt.jbN ?_ | refine Rt.jbE ?_)) | ((with_reducible (first | apply Rt.ld0 | apply Rt.ld1 | apply Rt.ld2 | apply Rt.ld3 | apply Rt.ld4 | apply Rt.ld5)); first | assumption | exact Lc.kp (by assumption) (by assumption)) | ((with_reducible apply Rt.ol); first | assumption | exact cell_kp (by assumption) (by assumption)) | ((with_reducible apply Rt.ckR); focus ((repeat (first | (with_reducible (first | refine Rt.fin ?_ | refine Rt.tL ?_ | refine Rt.tI ?_ | refine Rt.tB ?_ | refine Rt.tS ?_ | refine Rt.tP ?_ | refine Rt.tD ?_ | refine Rt.tM ?_ | refine Rt.tC ?_ | refine Rt.tN ?_ | refine Rt.tA ?_ | refine Rt.tG ?_ | refine Rt.tF ?_ | refine Rt.os ?_ | refine Rt.clS ?_ | refine Rt.jmN ?_ | refine Rt.jbN ?_ | refine Rt.jbE ?_)) | ((with_reducible (first | apply Rt.ld0 | apply Rt.ld1 | apply Rt.ld2 | apply Rt.ld3 | apply Rt.ld4 | apply Rt.ld5)); first | assumption | exact Lc.kp (by assumption) (by assumption)) | ((with_reducible apply Rt.ol); first | assumption | exact cell_kp (by assumption) (by assumption)))); exact Rt.some' rfl))))
  refine Rt.cT rfl (Rt.cT rfl ?_)
  have k12 := k1.tr k2
  have h1' : Cs w2 w.heap.size w.heap.size (fun j => j = w.heap.size) ⟨0, 0, [], 0⟩ := h1.kp k2
  refine Rt.cLit (f := 1) (p := 0) h1' (fun j hj => by omega) (Ok.new (r := 0) (by decide)) (by decide) k12.size hn fun w3 S3 g3 hs3 h3 => ?_
  rw [put_none]
  (repeat (first | (with_reducible (first | refine Rt.fin ?_ | refine Rt.tL ?_ | refine Rt.tI ?_ | refine Rt.tB ?_ | refine Rt.tS ?_ | refine Rt.tP ?_ | refine Rt.tD ?_ | refine Rt.tM ?_ | refine Rt.tC ?_ | refine Rt.tN ?_ | refine Rt.tA ?_ | refine Rt.tG ?_ | refine Rt.tF ?_ | refine Rt.os ?_ | refine Rt.clS ?_ | refine Rt.jmN ?_ | refine Rt.jbN ?_ | refine Rt.jbE ?_)) | ((with_reducible (first | apply Rt.ld0 | apply Rt.ld1 | apply Rt.ld2 | apply Rt.ld3 | apply Rt.ld4 | apply Rt.ld5)); first | assumption | exact Lc.kp (by assumption) (by assumption)) | ((with_reducible apply Rt.ol); first | assumption | exact cell_kp (by assumption) (by assumption)) | ((with_reducible apply Rt.ckR); focus ((repeat (first | (with_reducible (first | refine Rt.fin ?_ | refine Rt.tL ?_ | refine Rt.tI ?_ | refine Rt.tB ?_ | refine Rt.tS ?_ | refine Rt.tP ?_ | refine Rt.tD ?_ | refine Rt.tM ?_ | refine Rt.tC ?_ | refine Rt.tN ?_ | refine Rt.tA ?_ | refine Rt.tG ?_ | refine Rt.tF ?_ | refine Rt.os ?_ | refine Rt.clS ?_ | refine Rt.jmN ?_ | refine Rt.jbN ?_ | refine Rt.jbE ?_)) | ((with_reducible (first | apply Rt.ld0 | apply Rt.ld1 | apply Rt.ld2 | apply Rt.ld3 | apply Rt.ld4 | apply Rt.ld5)); first | assumption | exact Lc.kp (by assumption) (by assumption)) | ((with_reducible apply Rt.ol); first | assumption | exact cell_kp (by assumption) (by assumption)))); exact Rt.some' rfl))))
  refine Rt.cT rfl ?_
  have h2' : Cs w3 w.heap.size w1.heap.size (fun j => j = w1.heap.size) ⟨5, 0, [], 0⟩ := h2.gx g3 fun j hj e => by omega
  have k3 : Kp w w3 := k12.tx g3 fun j hj => by omega
  have z3 := g3.size
  refine Rt.cLit (f := 1) (p := 0) h2' (fun j hj => by omega) (Ok.new (r := 5) (by decide)) (by decide) k3.size hn fun w4 S4 g4 hs4 h4 => ?_
  rw [put_new (by decide)] at h4 ⊢
  (repeat (first | (with_reducible (first | refine Rt.fin ?_ | refine Rt.tL ?_ | refine Rt.tI ?_ | refine Rt.tB ?_ | refine Rt.tS ?_ | refine Rt.tP ?_ | refine Rt.tD ?_ | refine Rt.tM ?_ | refine Rt.tC ?_ | refine Rt.tN ?_ | refine Rt.tA ?_ | refine Rt.tG ?_ | refine Rt.tF ?_ | refine Rt.os ?_ | refine Rt.clS ?_ | refine Rt.jmN ?_ | refine Rt.jbN ?_ | refine Rt.jbE ?_)) | ((with_reducible (first | apply Rt.ld0 | apply Rt.ld1 | apply Rt.ld2 | apply Rt.ld3 | apply Rt.ld4 | apply Rt.ld5)); first | assumption | exact Lc.kp (by assumption) (by assumption)) | ((with_reducible apply Rt.ol); first | assumption | exact cell_kp (by assumption) (by assumption)) | ((with_reducible apply Rt.ckR); focus ((repeat (first | (with_reducible (first | refine Rt.fin ?_ | refine Rt.tL ?_ | refine Rt.tI ?_ | refine Rt.tB ?_ | refine Rt.tS ?_ | refine Rt.tP ?_ | refine Rt.tD ?_ | refine Rt.tM ?_ | refine Rt.tC ?_ | refine Rt.tN ?_ | refine Rt.tA ?_ | refine Rt.tG ?_ | refine Rt.tF ?_ | refine Rt.os ?_ | refine Rt.clS ?_ | refine Rt.jmN ?_ | refine Rt.jbN ?_ | refine Rt.jbE ?_)) | ((with_reducible (first | apply Rt.ld0 | apply Rt.ld1 | apply Rt.ld2 | apply Rt.ld3 | apply Rt.ld4 | apply Rt.ld5)); first | assumption | exact Lc.kp (by assumption) (by assumption)) | ((with_reducible apply Rt.ol); first | assumption | exact cell_kp (by assumption) (by assumption)))); exact Rt.some' rfl))))
  refine Rt.cT rfl ?_
  have k4 : Kp w w4 := k3.tx g4 fun j hj => by omega
  refine Rt.cI (Used_spec (n := n) h4) fun w5 k5 => Rt.cT rfl ?_
  have ok4 : Ok 1 ⟨5, 1, [⟨1, 0, [1], 1, true⟩], 0⟩ := by
    refine ⟨by decide, rfl, fun x hx => ?_, by decide, by decide, .inr rfl⟩
    simp at hx; subst hx; decide
  refine Rt.cI (Pins_spec (h4.kp k5) ok4 hn) fun w6 k6 => ?_
  exact Rt.endB (by decide) ((k4.tr k5).tr k6)
theorem stT_ok (q : Nat) (hq : q ≤ 20) : ∀ i, i ≤ 25 → Ok i (stT q i)
  | 0, _ => ⟨by show 0 ≤ (q : Int) ∧ (q : Int) < 2 ^ 63; omega, rfl, (fun x h => by cases h), Nat.le_refl _, by decide, .inr rfl⟩
  | i + 1, h => ((stT_ok q hq i (by omega)).put (by omega) (by decide)).rel
theorem Turns_l0 {q : Nat} {a : Int} (hq : q ≤ 20) (hn : 2 ^ 60 < n) : ∀ (e i j : Nat) (S : Nat → Prop) (w' : World), i + e = q → e < j → Kp w w' → (∀ z, S z → w.heap.size ≤ z ∧ z < w'.heap.size) → Cs w' w.heap.size cb S (stT q i) →
    Rt (butterylaw14_ClockTurns.l0 n j (q : Int) a (some ⟨cb, 0, none⟩) (i : Int) w') fun r => ∃ w1 S, r = ⟨.exit 0, [.int .i64 (q : Int), .int .i64 a, pt cb], w1⟩ ∧ Kp w w1 ∧ (∀ z, S z → w.heap.size ≤ z ∧ z < w1.heap.size) ∧ Cs w1 w.heap.size cb S (stT q q) := by
  intro e
  induction e with
  | zero =>
    intro i j S w' hi hj hk hS h
    obtain ⟨j, rfl⟩ : ∃ j', j = j' + 1 := ⟨j - 1, by omega⟩
    obtain rfl : i = q := by omega
    rw [butterylaw14_ClockTurns.l0_succ]
    exact Rt.cDF (by omega) (Rt.some' ⟨w', S, rfl, hk, hS, h⟩)
  | succ e ih =>
    intro i j S w' hi hj hk hS h
    obtain ⟨j, rfl⟩ : ∃ j', j = j' + 1 := ⟨j - 1, by omega⟩
    rw [butterylaw14_ClockTurns.l0_succ]
    have ho := stT_ok q hq i (by omega)
    have hl := ho.len
    refine Rt.cDT (by omega) (Rt.cLit (f := 7) (p := (i : Int)) h (fun z hz => (hS z hz).2) ho (by omega) hk.size hn fun w1 S1 g1 hs1 h1 => ?_)
    rw [putS_fuel (by omega) (by omega)] at h1 ⊢
    (repeat (first | (with_reducible (first | refine Rt.fin ?_ | refine Rt.tL ?_ | refine Rt.tI ?_ | refine Rt.tB ?_ | refine Rt.tS ?_ | refine Rt.tP ?_ | refine Rt.tD ?_ | refine Rt.tM ?_ | refine Rt.tC ?_ | refine Rt.tN ?_ | refine Rt.tA ?_ | refine Rt.tG ?_ | refine Rt.tF ?_ | refine Rt.os ?_ | refine Rt.clS ?_ | refine Rt.jmN ?_ | refine Rt.jbN ?_ | refine Rt.jbE ?_)) | ((with_reducible (first | apply Rt.ld0 | apply Rt.ld1 | apply Rt.ld2 | apply Rt.ld3 | apply Rt.ld4 | apply Rt.ld5)); first | assumption | exact Lc.kp (by assumption) (by assumption)) | ((with_reducible apply Rt.ol); first | assumption | exact cell_kp (by assumption) (by assumption)) | ((with_reducible apply Rt.ckR); focus ((repeat (first | (with_reducible (first | refine Rt.fin ?_ | refine Rt.tL ?_ | refine Rt.tI ?_ | refine Rt.tB ?_ | refine Rt.tS ?_ | refine Rt.tP ?_ | refine Rt.tD ?_ | refine Rt.tM ?_ | refine Rt.tC ?_ | refine Rt.tN ?_ | refine Rt.tA ?_ | refine Rt.tG ?_ | refine Rt.tF ?_ | refine Rt.os ?_ | refine Rt.clS ?_ | refine Rt.jmN ?_ | refine Rt.jbN ?_ | refine Rt.jbE ?_)) | ((with_reducible (first | apply Rt.ld0 | apply Rt.ld1 | apply Rt.ld2 | apply Rt.ld3 | apply Rt.ld4 | apply Rt.ld5)); first | assumption | exact Lc.kp (by assumption) (by assumption)) | ((with_reducible apply Rt.ol); first | assumption | exact cell_kp (by assumption) (by assumption)))); exact Rt.some' rfl))))
    refine Rt.cSt (Rel_spec (f := 7) (p := (i : Int)) h1 (ho.put (n := 3000) (f := 7) (p := (i : Int)) (bs := [1]) (by omega) (by decide)) hn) fun w2 g2 h2 => ?_
    (repeat (first | (with_reducible (first | refine Rt.fin ?_ | refine Rt.tL ?_ | refine Rt.tI ?_ | refine Rt.tB ?_ | refine Rt.tS ?_ | refine Rt.tP ?_ | refine Rt.tD ?_ | refine Rt.tM ?_ | refine Rt.tC ?_ | refine Rt.tN ?_ | refine Rt.tA ?_ | refine Rt.tG ?_ | refine Rt.tF ?_ | refine Rt.os ?_ | refine Rt.clS ?_ | refine Rt.jmN ?_ | refine Rt.jbN ?_ | refine Rt.jbE ?_)) | ((with_reducible (first | apply Rt.ld0 | apply Rt.ld1 | apply Rt.ld2 | apply Rt.ld3 | apply Rt.ld4 | apply Rt.ld5)); first | assumption | exact Lc.kp (by assumption) (by assumption)) | ((with_reducible apply Rt.ol); first | assumption | exact cell_kp (by assumption) (by assumption)) | ((with_reducible apply Rt.ckR); focus ((repeat (first | (with_reducible (first | refine Rt.fin ?_ | refine Rt.tL ?_ | refine Rt.tI ?_ | refine Rt.tB ?_ | refine Rt.tS ?_ | refine Rt.tP ?_ | refine Rt.tD ?_ | refine Rt.tM ?_ | refine Rt.tC ?_ | refine Rt.tN ?_ | refine Rt.tA ?_ | refine Rt.tG ?_ | refine Rt.tF ?_ | refine Rt.os ?_ | refine Rt.clS ?_ | refine Rt.jmN ?_ | refine Rt.jbN ?_ | refine Rt.jbE ?_)) | ((with_reducible (first | apply Rt.ld0 | apply Rt.ld1 | apply Rt.ld2 | apply Rt.ld3 | apply Rt.ld4 | apply Rt.ld5)); first | assumption | exact Lc.kp (by assumption) (by assumption)) | ((with_reducible apply Rt.ol); first | assumption | exact cell_kp (by assumption) (by assumption)))); exact Rt.some' rfl))))
    rw [i64_in _ (by omega), show ((i : Int) + 1) = ((i + 1 : Nat) : Int) by omega]
    have k1 := hk.tx g1 fun z hz => (hS z hz).1
    have k2 := k1.tx g2 fun z hz => (hs1 z hz).2.1
    have z2 := g2.size
    exact ih (i + 1) j S1 w2 (by omega) (by omega) k2 (fun z hz => by have := (hs1 z hz).2; omega) h2
theorem ClockTurns_spec {q a : Int} (hn : 2 ^ 60 < n) : Rt (butterylaw14_ClockTurns n [.int .i64 q, .int .i64 a] w) (RB True w) := by
  rw [butterylaw14_ClockTurns_eq]
  refine Rt.fin (Rt.cBt (alive_spec hn) trivial fun w1 k1 => Rt.cF rfl ?_)
  refine Rt.cD (fun _ => Rt.endB (by simp) k1) fun h1 => Rt.cD (fun _ => Rt.endB (by simp) k1) fun h2 => Rt.cD (fun _ => Rt.endB (by simp) k1) fun h3 => Rt.cD (fun _ => Rt.endB (by simp) k1) fun h4 => ?_
  obtain ⟨q, rfl⟩ : ∃ q' : Nat, q = (q' : Int) := ⟨q.toNat, by omega⟩
  obtain ⟨a, rfl⟩ : ∃ a' : Nat, a = (a' : Int) := ⟨a.toNat, by omega⟩
  obtain ⟨_, e, w2, rfl, k2, hc, z2⟩ := New_spec (base := w1.heap.size) (w := w1) (n := n) (r := (q : Int)) (Nat.le_refl _)
  refine Rt.cl e ?_
  (repeat (first | (with_reducible (first | refine Rt.fin ?_ | refine Rt.tL ?_ | refine Rt.tI ?_ | refine Rt.tB ?_ | refine Rt.tS ?_ | refine Rt.tP ?_ | refine Rt.tD ?_ | refine Rt.tM ?_ | refine Rt.tC ?_ | refine Rt.tN ?_ | refine Rt.tA ?_ | refine Rt.tG ?_ | refine Rt.tF ?_ | refine Rt.os ?_ | refine Rt.clS ?_ | refine Rt.jmN ?_ | refine Rt.jbN ?_ | refine Rt.jbE ?_)) | ((with_reducible (first | apply Rt.ld0 | apply Rt.ld1 | apply Rt.ld2 | apply Rt.ld3 | apply Rt.ld4 | apply Rt.ld5)); first | assumption | exact Lc.kp (by assumption) (by assumption)) | ((with_reducible apply Rt.ol); first | assumption | exact cell_kp (by assumption) (by assumption)) | ((with_reducible apply Rt.ckR); focus ((repeat (first | (with_reducible (first | refine Rt.fin ?_ | refine Rt.tL ?_ | refine Rt.tI ?_ | refine Rt.tB ?_ | refine Rt.tS ?_ | refine Rt.tP ?_ | refine Rt.tD ?_ | refine Rt.tM ?_ | refine Rt.tC ?_ | refine Rt.tN ?_ | refine Rt.tA ?_ | refine Rt.tG ?_ | refine Rt.tF ?_ | refine Rt.os ?_ | refine Rt.clS ?_ | refine Rt.jmN ?_ | refine Rt.jbN ?_ | refine Rt.jbE ?_)) | ((with_reducible (first | apply Rt.ld0 | apply Rt.ld1 | apply Rt.ld2 | apply Rt.ld3 | apply Rt.ld4 | apply Rt.ld5)); first | assumption | exact Lc.kp (by assumption) (by assumption)) | ((with_reducible apply Rt.ol); first | assumption | exact cell_kp (by assumption) (by assumption)))); exact Rt.some' rfl))))
  have hc : Cs w2 w1.heap.size w1.heap.size (fun j => j = w1.heap.size) (stT q 0) := by
    rw [if_pos (by omega)] at hc; exact hc
  refine Rt.jb (Rt.mono (Turns_l0 (a := (a : Int)) (by omega) hn q 0 n _ w2 (by omega) (by omega) k2 (fun z hz => by omega) hc) ?_)
  rintro r ⟨w3, S3, rfl, k3, hS3, h3⟩
  refine .inl ⟨.inr rfl, ?_⟩
  (repeat (first | (with_reducible (first | refine Rt.fin ?_ | refine Rt.tL ?_ | refine Rt.tI ?_ | refine Rt.tB ?_ | refine Rt.tS ?_ | refine Rt.tP ?_ | refine Rt.tD ?_ | refine Rt.tM ?_ | refine Rt.tC ?_ | refine Rt.tN ?_ | refine Rt.tA ?_ | refine Rt.tG ?_ | refine Rt.tF ?_ | refine Rt.os ?_ | refine Rt.clS ?_ | refine Rt.jmN ?_ | refine Rt.jbN ?_ | refine Rt.jbE ?_)) | ((with_reducible (first | apply Rt.ld0 | apply Rt.ld1 | apply Rt.ld2 | apply Rt.ld3 | apply Rt.ld4 | apply Rt.ld5)); first | assumption | exact Lc.kp (by assumption) (by assumption)) | ((with_reducible apply Rt.ol); first | assumption | exact cell_kp (by assumption) (by assumption)) | ((with_reducible apply Rt.ckR); focus ((repeat (first | (with_reducible (first | refine Rt.fin ?_ | refine Rt.tL ?_ | refine Rt.tI ?_ | refine Rt.tB ?_ | refine Rt.tS ?_ | refine Rt.tP ?_ | refine Rt.tD ?_ | refine Rt.tM ?_ | refine Rt.tC ?_ | refine Rt.tN ?_ | refine Rt.tA ?_ | refine Rt.tG ?_ | refine Rt.tF ?_ | refine Rt.os ?_ | refine Rt.clS ?_ | refine Rt.jmN ?_ | refine Rt.jbN ?_ | refine Rt.jbE ?_)) | ((with_reducible (first | apply Rt.ld0 | apply Rt.ld1 | apply Rt.ld2 | apply Rt.ld3 | apply Rt.ld4 | apply Rt.ld5)); first | assumption | exact Lc.kp (by assumption) (by assumption)) | ((with_reducible apply Rt.ol); first | assumption | exact cell_kp (by assumption) (by assumption)))); exact Rt.some' rfl))))
  have hchk := chk_all q (by omega) (by omega) a (by omega)
  unfold chkT' at hchk
  simp only [Bool.and_eq_true, Bool.not_eq_true', beq_iff_eq] at hchk
  obtain ⟨⟨⟨⟨c1, c2⟩, c3⟩, c4⟩, c5⟩ := hchk
  have ok0 := stT_ok q (by omega) q (by omega)
  refine Rt.cLit (f := 7) (p := (q : Int)) h3 (fun z hz => (hS3 z hz).2) ok0 (by omega) k3.size hn fun w4 S4 g4 hs4 h4' => ?_
  have hl0 := ok0.len
  rw [putS_fuel (by omega) (by omega)] at h4' ⊢
  have ok1 := ok0.put (n := 3000) (f := 7) (p := (q : Int)) (bs := [1]) (by omega) (by decide)
  (repeat (first | (with_reducible (first | refine Rt.fin ?_ | refine Rt.tL ?_ | refine Rt.tI ?_ | refine Rt.tB ?_ | refine Rt.tS ?_ | refine Rt.tP ?_ | refine Rt.tD ?_ | refine Rt.tM ?_ | refine Rt.tC ?_ | refine Rt.tN ?_ | refine Rt.tA ?_ | refine Rt.tG ?_ | refine Rt.tF ?_ | refine Rt.os ?_ | refine Rt.clS ?_ | refine Rt.jmN ?_ | refine Rt.jbN ?_ | refine Rt.jbE ?_)) | ((with_reducible (first | apply Rt.ld0 | apply Rt.ld1 | apply Rt.ld2 | apply Rt.ld3 | apply Rt.ld4 | apply Rt.ld5)); first | assumption | exact Lc.kp (by assumption) (by assumption)) | ((with_reducible apply Rt.ol); first | assumption | exact cell_kp (by assumption) (by assumption)) | ((with_reducible apply Rt.ckR); focus ((repeat (first | (with_reducible (first | refine Rt.fin ?_ | refine Rt.tL ?_ | refine Rt.tI ?_ | refine Rt.tB ?_ | refine Rt.tS ?_ | refine Rt.tP ?_ | refine Rt.tD ?_ | refine Rt.tM ?_ | refine Rt.tC ?_ | refine Rt.tN ?_ | refine Rt.tA ?_ | refine Rt.tG ?_ | refine Rt.tF ?_ | refine Rt.os ?_ | refine Rt.clS ?_ | refine Rt.jmN ?_ | refine Rt.jbN ?_ | refine Rt.jbE ?_)) | ((with_reducible (first | apply Rt.ld0 | apply Rt.ld1 | apply Rt.ld2 | apply Rt.ld3 | apply Rt.ld4 | apply Rt.ld5)); first | assumption | exact Lc.kp (by assumption) (by assumption)) | ((with_reducible apply Rt.ol); first | assumption | exact cell_kp (by assumption) (by assumption)))); exact Rt.some' rfl))))
  refine Rt.cSt (Rel_spec (f := 7) (p := (q : Int)) h4' ok1 hn) fun w5 g5 h5 => ?_
  have h5 : Cs w5 w1.heap.size w1.heap.size S4 (s1T q) := h5
  have ok2 : Ok (q + 1) (s1T q) := ok1.rel
  (repeat (first | (with_reducible (first | refine Rt.fin ?_ | refine Rt.tL ?_ | refine Rt.tI ?_ | refine Rt.tB ?_ | refine Rt.tS ?_ | refine Rt.tP ?_ | refine Rt.tD ?_ | refine Rt.tM ?_ | refine Rt.tC ?_ | refine Rt.tN ?_ | refine Rt.tA ?_ | refine Rt.tG ?_ | refine Rt.tF ?_ | refine Rt.os ?_ | refine Rt.clS ?_ | refine Rt.jmN ?_ | refine Rt.jbN ?_ | refine Rt.jbE ?_)) | ((with_reducible (first | apply Rt.ld0 | apply Rt.ld1 | apply Rt.ld2 | apply Rt.ld3 | apply Rt.ld4 | apply Rt.ld5)); first | assumption | exact Lc.kp (by assumption) (by assumption)) | ((with_reducible apply Rt.ol); first | assumption | exact cell_kp (by assumption) (by assumption)) | ((with_reducible apply Rt.ckR); focus ((repeat (first | (with_reducible (first | refine Rt.fin ?_ | refine Rt.tL ?_ | refine Rt.tI ?_ | refine Rt.tB ?_ | refine Rt.tS ?_ | refine Rt.tP ?_ | refine Rt.tD ?_ | refine Rt.tM ?_ | refine Rt.tC ?_ | refine Rt.tN ?_ | refine Rt.tA ?_ | refine Rt.tG ?_ | refine Rt.tF ?_ | refine Rt.os ?_ | refine Rt.clS ?_ | refine Rt.jmN ?_ | refine Rt.jbN ?_ | refine Rt.jbE ?_)) | ((with_reducible (first | apply Rt.ld0 | apply Rt.ld1 | apply Rt.ld2 | apply Rt.ld3 | apply Rt.ld4 | apply Rt.ld5)); first | assumption | exact Lc.kp (by assumption) (by assumption)) | ((with_reducible apply Rt.ol); first | assumption | exact cell_kp (by assumption) (by assumption)))); exact Rt.some' rfl))))
  refine Rt.cGet (Get_spec (f := 7) (p := 0) h5 ok2 hn) fun B6 m6 d6 w6 b6 on6 o6 g6 h6 => ?_
  (repeat (first | (with_reducible (first | refine Rt.fin ?_ | refine Rt.tL ?_ | refine Rt.tI ?_ | refine Rt.tB ?_ | refine Rt.tS ?_ | refine Rt.tP ?_ | refine Rt.tD ?_ | refine Rt.tM ?_ | refine Rt.tC ?_ | refine Rt.tN ?_ | refine Rt.tA ?_ | refine Rt.tG ?_ | refine Rt.tF ?_ | refine Rt.os ?_ | refine Rt.clS ?_ | refine Rt.jmN ?_ | refine Rt.jbN ?_ | refine Rt.jbE ?_)) | ((with_reducible (first | apply Rt.ld0 | apply Rt.ld1 | apply Rt.ld2 | apply Rt.ld3 | apply Rt.ld4 | apply Rt.ld5)); first | assumption | exact Lc.kp (by assumption) (by assumption)) | ((with_reducible apply Rt.ol); first | assumption | exact cell_kp (by assumption) (by assumption)) | ((with_reducible apply Rt.ckR); focus ((repeat (first | (with_reducible (first | refine Rt.fin ?_ | refine Rt.tL ?_ | refine Rt.tI ?_ | refine Rt.tB ?_ | refine Rt.tS ?_ | refine Rt.tP ?_ | refine Rt.tD ?_ | refine Rt.tM ?_ | refine Rt.tC ?_ | refine Rt.tN ?_ | refine Rt.tA ?_ | refine Rt.tG ?_ | refine Rt.tF ?_ | refine Rt.os ?_ | refine Rt.clS ?_ | refine Rt.jmN ?_ | refine Rt.jbN ?_ | refine Rt.jbE ?_)) | ((with_reducible (first | apply Rt.ld0 | apply Rt.ld1 | apply Rt.ld2 | apply Rt.ld3 | apply Rt.ld4 | apply Rt.ld5)); first | assumption | exact Lc.kp (by assumption) (by assumption)) | ((with_reducible apply Rt.ol); first | assumption | exact cell_kp (by assumption) (by assumption)))); exact Rt.some' rfl))))
  have ok3 := ok2.get (f := 7) (p := 0) (by omega)
  refine Rt.cGet (Get_spec (f := 7) (p := (a : Int)) h6 ok3 hn) fun B7 m7 d7 w7 b7 on7 o7 g7 h7 => ?_
  (repeat (first | (with_reducible (first | refine Rt.fin ?_ | refine Rt.tL ?_ | refine Rt.tI ?_ | refine Rt.tB ?_ | refine Rt.tS ?_ | refine Rt.tP ?_ | refine Rt.tD ?_ | refine Rt.tM ?_ | refine Rt.tC ?_ | refine Rt.tN ?_ | refine Rt.tA ?_ | refine Rt.tG ?_ | refine Rt.tF ?_ | refine Rt.os ?_ | refine Rt.clS ?_ | refine Rt.jmN ?_ | refine Rt.jbN ?_ | refine Rt.jbE ?_)) | ((with_reducible (first | apply Rt.ld0 | apply Rt.ld1 | apply Rt.ld2 | apply Rt.ld3 | apply Rt.ld4 | apply Rt.ld5)); first | assumption | exact Lc.kp (by assumption) (by assumption)) | ((with_reducible apply Rt.ol); first | assumption | exact cell_kp (by assumption) (by assumption)) | ((with_reducible apply Rt.ckR); focus ((repeat (first | (with_reducible (first | refine Rt.fin ?_ | refine Rt.tL ?_ | refine Rt.tI ?_ | refine Rt.tB ?_ | refine Rt.tS ?_ | refine Rt.tP ?_ | refine Rt.tD ?_ | refine Rt.tM ?_ | refine Rt.tC ?_ | refine Rt.tN ?_ | refine Rt.tA ?_ | refine Rt.tG ?_ | refine Rt.tF ?_ | refine Rt.os ?_ | refine Rt.clS ?_ | refine Rt.jmN ?_ | refine Rt.jbN ?_ | refine Rt.jbE ?_)) | ((with_reducible (first | apply Rt.ld0 | apply Rt.ld1 | apply Rt.ld2 | apply Rt.ld3 | apply Rt.ld4 | apply Rt.ld5)); first | assumption | exact Lc.kp (by assumption) (by assumption)) | ((with_reducible apply Rt.ol); first | assumption | exact cell_kp (by assumption) (by assumption)))); exact Rt.some' rfl))))
  have h7 : Cs w7 w1.heap.size w1.heap.size S4 (s4T q a) := h7
  have ok4 : Ok (q + 3) (s4T q a) := ok3.get (f := 7) (p := (a : Int)) (by omega)
  have hS4 : ∀ z, S4 z → w1.heap.size ≤ z := fun z hz => (hs4 z hz).2.1
  have k4 : Kp w1 w4 := k3.tx g4 fun z hz => (hS3 z hz).1
  have k7 : Kp w1 w7 := ((k4.tx g5 hS4).tx g6 hS4).tx g7 hS4
  have z47 : w4.heap.size ≤ w7.heap.size := Nat.le_trans g5.size (Nat.le_trans g6.size g7.size)
  refine Rt.jm (Rt.mono (Q' := fun r => ∃ w8, r = ⟨.norm, [.int .i64 (q : Int), .int .i64 (a : Int), pt w1.heap.size, .bool (putS 3000 (stT q q) 7 q [1]).2, .bool (getB (s1T q) 7 0).isSome, .bool (hasT q a)], w8⟩ ∧ Gx S4 w7 w8 ∧ Cs w8 w1.heap.size w1.heap.size S4 (s5T q a)) ?_ ?_)
  · refine Rt.cB (fun hb => ?_) fun hb => ?_
    · refine Rt.cSt (Rel_spec (f := 7) (p := (a : Int)) h7 ok4 hn) fun w8 g8 h8 => ?_
      (repeat (first | (with_reducible (first | refine Rt.fin ?_ | refine Rt.tL ?_ | refine Rt.tI ?_ | refine Rt.tB ?_ | refine Rt.tS ?_ | refine Rt.tP ?_ | refine Rt.tD ?_ | refine Rt.tM ?_ | refine Rt.tC ?_ | refine Rt.tN ?_ | refine Rt.tA ?_ | refine Rt.tG ?_ | refine Rt.tF ?_ | refine Rt.os ?_ | refine Rt.clS ?_ | refine Rt.jmN ?_ | refine Rt.jbN ?_ | refine Rt.jbE ?_)) | ((with_reducible (first | apply Rt.ld0 | apply Rt.ld1 | apply Rt.ld2 | apply Rt.ld3 | apply Rt.ld4 | apply Rt.ld5)); first | assumption | exact Lc.kp (by assumption) (by assumption)) | ((with_reducible apply Rt.ol); first | assumption | exact cell_kp (by assumption) (by assumption)) | ((with_reducible apply Rt.ckR); focus ((repeat (first | (with_reducible (first | refine Rt.fin ?_ | refine Rt.tL ?_ | refine Rt.tI ?_ | refine Rt.tB ?_ | refine Rt.tS ?_ | refine Rt.tP ?_ | refine Rt.tD ?_ | refine Rt.tM ?_ | refine Rt.tC ?_ | refine Rt.tN ?_ | refine Rt.tA ?_ | refine Rt.tG ?_ | refine Rt.tF ?_ | refine Rt.os ?_ | refine Rt.clS ?_ | refine Rt.jmN ?_ | refine Rt.jbN ?_ | refine Rt.jbE ?_)) | ((with_reducible (first | apply Rt.ld0 | apply Rt.ld1 | apply Rt.ld2 | apply Rt.ld3 | apply Rt.ld4 | apply Rt.ld5)); first | assumption | exact Lc.kp (by assumption) (by assumption)) | ((with_reducible apply Rt.ol); first | assumption | exact cell_kp (by assumption) (by assumption)))); exact Rt.some' rfl))))
      have e5 : s5T q a = (relS (s4T q a) 7 a).1 := by unfold s5T; exact if_pos hb
      exact Rt.some' ⟨w8, rfl, g8, by rw [e5]; exact h8⟩
    · have e5 : s5T q a = s4T q a := by unfold s5T; rw [if_neg (by rw [show hasT q a = false from hb]; simp)]
      exact Rt.some' ⟨w7, rfl, Gx.rfl' _ _, by rw [e5]; exact h7⟩
  · rintro r ⟨w8, rfl, g8, h8⟩
    refine ⟨rfl, ?_⟩
    dsimp only
    (repeat (first | (with_reducible (first | refine Rt.fin ?_ | refine Rt.tL ?_ | refine Rt.tI ?_ | refine Rt.tB ?_ | refine Rt.tS ?_ | refine Rt.tP ?_ | refine Rt.tD ?_ | refine Rt.tM ?_ | refine Rt.tC ?_ | refine Rt.tN ?_ | refine Rt.tA ?_ | refine Rt.tG ?_ | refine Rt.tF ?_ | refine Rt.os ?_ | refine Rt.clS ?_ | refine Rt.jmN ?_ | refine Rt.jbN ?_ | refine Rt.jbE ?_)) | ((with_reducible (first | apply Rt.ld0 | apply Rt.ld1 | apply Rt.ld2 | apply Rt.ld3 | apply Rt.ld4 | apply Rt.ld5)); first | assumption | exact Lc.kp (by assumption) (by assumption)) | ((with_reducible apply Rt.ol); first | assumption | exact cell_kp (by assumption) (by assumption)) | ((with_reducible apply Rt.ckR); focus ((repeat (first | (with_reducible (first | refine Rt.fin ?_ | refine Rt.tL ?_ | refine Rt.tI ?_ | refine Rt.tB ?_ | refine Rt.tS ?_ | refine Rt.tP ?_ | refine Rt.tD ?_ | refine Rt.tM ?_ | refine Rt.tC ?_ | refine Rt.tN ?_ | refine Rt.tA ?_ | refine Rt.tG ?_ | refine Rt.tF ?_ | refine Rt.os ?_ | refine Rt.clS ?_ | refine Rt.jmN ?_ | refine Rt.jbN ?_ | refine Rt.jbE ?_)) | ((with_reducible (first | apply Rt.ld0 | apply Rt.ld1 | apply Rt.ld2 | apply Rt.ld3 | apply Rt.ld4 | apply Rt.ld5)); first | assumption | exact Lc.kp (by assumption) (by assumption)) | ((with_reducible apply Rt.ol); first | assumption | exact cell_kp (by assumption) (by assumption)))); exact Rt.some' rfl))))
    have ok5 : Ok (q + 3) (s5T q a) := by
      unfold s5T
      split
      · exact ok4.rel
      · exact ok4
    have hl5 := ok5.len
    have z8 := g8.size
    have k8 := k7.tx g8 hS4
    rw [i64_in _ (by omega), show ((q : Int) + 1) = ((q + 1 : Nat) : Int) by omega]
    refine Rt.cLit (f := 7) (p := ((q + 1 : Nat) : Int)) h8 (fun z hz => by have := (hs4 z hz).2; omega) ok5 (by omega) k8.size hn fun w9 S9 g9 hs9 h9 => ?_
    rw [putS_fuel (by omega) (by omega)] at h9 ⊢
    (repeat (first | (with_reducible (first | refine Rt.fin ?_ | refine Rt.tL ?_ | refine Rt.tI ?_ | refine Rt.tB ?_ | refine Rt.tS ?_ | refine Rt.tP ?_ | refine Rt.tD ?_ | refine Rt.tM ?_ | refine Rt.tC ?_ | refine Rt.tN ?_ | refine Rt.tA ?_ | refine Rt.tG ?_ | refine Rt.tF ?_ | refine Rt.os ?_ | refine Rt.clS ?_ | refine Rt.jmN ?_ | refine Rt.jbN ?_ | refine Rt.jbE ?_)) | ((with_reducible (first | apply Rt.ld0 | apply Rt.ld1 | apply Rt.ld2 | apply Rt.ld3 | apply Rt.ld4 | apply Rt.ld5)); first | assumption | exact Lc.kp (by assumption) (by assumption)) | ((with_reducible apply Rt.ol); first | assumption | exact cell_kp (by assumption) (by assumption)) | ((with_reducible apply Rt.ckR); focus ((repeat (first | (with_reducible (first | refine Rt.fin ?_ | refine Rt.tL ?_ | refine Rt.tI ?_ | refine Rt.tB ?_ | refine Rt.tS ?_ | refine Rt.tP ?_ | refine Rt.tD ?_ | refine Rt.tM ?_ | refine Rt.tC ?_ | refine Rt.tN ?_ | refine Rt.tA ?_ | refine Rt.tG ?_ | refine Rt.tF ?_ | refine Rt.os ?_ | refine Rt.clS ?_ | refine Rt.jmN ?_ | refine Rt.jbN ?_ | refine Rt.jbE ?_)) | ((with_reducible (first | apply Rt.ld0 | apply Rt.ld1 | apply Rt.ld2 | apply Rt.ld3 | apply Rt.ld4 | apply Rt.ld5)); first | assumption | exact Lc.kp (by assumption) (by assumption)) | ((with_reducible apply Rt.ol); first | assumption | exact cell_kp (by assumption) (by assumption)))); exact Rt.some' rfl))))
    have ok6 := ok5.put (n := 3000) (f := 7) (p := ((q + 1 : Nat) : Int)) (bs := [1]) (by omega) (by decide)
    refine Rt.cGet (Get_spec (f := 7) (p := (a : Int)) h9 ok6 hn) fun B10 m10 d10 w10 b10 on10 o10 g10 h10 => ?_
    (repeat (first | (with_reducible (first | refine Rt.fin ?_ | refine Rt.tL ?_ | refine Rt.tI ?_ | refine Rt.tB ?_ | refine Rt.tS ?_ | refine Rt.tP ?_ | refine Rt.tD ?_ | refine Rt.tM ?_ | refine Rt.tC ?_ | refine Rt.tN ?_ | refine Rt.tA ?_ | refine Rt.tG ?_ | refine Rt.tF ?_ | refine Rt.os ?_ | refine Rt.clS ?_ | refine Rt.jmN ?_ | refine Rt.jbN ?_ | refine Rt.jbE ?_)) | ((with_reducible (first | apply Rt.ld0 | apply Rt.ld1 | apply Rt.ld2 | apply Rt.ld3 | apply Rt.ld4 | apply Rt.ld5)); first | assumption | exact Lc.kp (by assumption) (by assumption)) | ((with_reducible apply Rt.ol); first | assumption | exact cell_kp (by assumption) (by assumption)) | ((with_reducible apply Rt.ckR); focus ((repeat (first | (with_reducible (first | refine Rt.fin ?_ | refine Rt.tL ?_ | refine Rt.tI ?_ | refine Rt.tB ?_ | refine Rt.tS ?_ | refine Rt.tP ?_ | refine Rt.tD ?_ | refine Rt.tM ?_ | refine Rt.tC ?_ | refine Rt.tN ?_ | refine Rt.tA ?_ | refine Rt.tG ?_ | refine Rt.tF ?_ | refine Rt.os ?_ | refine Rt.clS ?_ | refine Rt.jmN ?_ | refine Rt.jbN ?_ | refine Rt.jbE ?_)) | ((with_reducible (first | apply Rt.ld0 | apply Rt.ld1 | apply Rt.ld2 | apply Rt.ld3 | apply Rt.ld4 | apply Rt.ld5)); first | assumption | exact Lc.kp (by assumption) (by assumption)) | ((with_reducible apply Rt.ol); first | assumption | exact cell_kp (by assumption) (by assumption)))); exact Rt.some' rfl))))
    have k10 : Kp w w10 := k1.tr ((k8.tx g9 hS4).tx g10 fun z hz => (hs9 z hz).2.1)
    refine Rt.cT c1 (Rt.cT c2 (Rt.cT (by rw [c3]; rfl) (Rt.cT ?_ (Rt.endB ?_ k10))))
    · rw [beq_iff_eq]
      refine Eq.trans c4 ?_
      rw [Bool.eq_iff_iff]; simp
    · exact ⟨fun _ => trivial, fun _ => by rw [beq_iff_eq]; exact c5⟩
end
end Go.Proofs.Ytdnbpgakmbamoaa.Ck
