/- Edits: how the program reads numbers and texts. -/
import Derived.Test.YtdnbpgakmbamoaaE5
namespace Go.Proofs.Ytdnbpgakmbamoaa.Ed
open Go Big Go.RowKit Go.IntWalk Cm Var Low Par
set_option linter.unusedVariables false
set_option linter.unusedSimpArgs false
set_option linter.unusedSectionVars false
instance : Inhabited RunD := ⟨⟨0, 0, 0, [], [], 0⟩⟩
instance : Inhabited EditD := ⟨⟨[], [], 0, 0, 0⟩⟩
def limP (b : Int) : Pa Int := bindP numP fun n => if n > b then failP 2 else retP n
def txtP : Pa (List Int) := bindP (limP 256) fun n => takeP n.toNat
def runP : Pa RunD := bindP numP fun f => bindP numP fun b => bindP numP fun c => bindP txtP fun x => bindP txtP fun y => bindP numP fun s => retP ⟨f, b, c, x, y, s⟩
def runsP : Nat → Pa (List RunD)
  | 0 => retP []
  | n + 1 => bindP runP fun o => bindP (runsP n) fun l => retP (o :: l)
def numsP : Nat → Pa (List Int)
  | 0 => retP []
  | n + 1 => bindP numP fun o => bindP (numsP n) fun l => retP (o :: l)
def rawP : Pa EditD := bindP (limP 100) fun n => bindP (runsP n.toNat) fun l => bindP (limP 100) fun m => bindP (numsP m.toNat) fun d => bindP numP fun p => bindP numP fun q => bindP numP fun s => retP ⟨l, d, p, q, s⟩
open Classical in
noncomputable def editP : Pa EditD := bindP rawP fun e => if rightE e then retP e else failP 2
/-- A reader that stood at i with the error e stands at i' with e', and has read v as f reads it. -/
structure Stp {α : Type} (f : Pa α) (zs : List Int) (i : Nat) (e : Int) (i' : Nat) (e' : Int) (v : α) : Prop where
  bad : e ≠ 0 → e' = e
  err : e = 0 → e' = (f zs i).1
  ok : e = 0 → e' = 0 → i' = (f zs i).2.2 ∧ v = (f zs i).2.1
section
variable {α β : Type} [Inhabited α] [Inhabited β] {zs : List Int} {i i1 i2 : Nat} {e e1 e2 : Int}
theorem Stp.ret (a : α) : Stp (retP a) zs i e i e a := ⟨fun _ => rfl, fun h => h, fun _ _ => ⟨rfl, rfl⟩⟩
theorem Stp.bind {f : Pa α} {g : α → Pa β} {a : α} {b : β} (h1 : Stp f zs i e i1 e1 a) (h2 : Stp (g a) zs i1 e1 i2 e2 b) : Stp (bindP f g) zs i e i2 e2 b := by
  have key : e = 0 → e2 = (bindP f g zs i).1 ∧ (e2 = 0 → i2 = (bindP f g zs i).2.2 ∧ b = (bindP f g zs i).2.1) := by
    intro he
    have k1 := h1.err he
    unfold bindP
    by_cases c : e1 = 0
    · obtain ⟨k2, k3⟩ := h1.ok he c
      rw [if_pos (by omega), ← k2, ← k3]
      exact ⟨h2.err c, fun h => h2.ok c h⟩
    · rw [if_neg (by omega)]
      have := h2.bad c
      exact ⟨by show e2 = (f zs i).1; omega, fun h => by omega⟩
  refine ⟨fun h => ?_, fun h => (key h).1, fun h h' => (key h).2 h'⟩
  have := h1.bad h
  have := h2.bad (by omega)
  omega
theorem Stp.cast {f : Pa α} {a b : α} (h : Stp f zs i e i1 e1 a) (hab : e1 = 0 → a = b) : Stp f zs i e i1 e1 b :=
  ⟨h.bad, h.err, fun h1 h2 => by rw [← hab h2]; exact h.ok h1 h2⟩
end
abbrev Rd (w : World) (p : Nat) (A : Option Addr) (l c : Nat) (i : Nat) (e : Int) (g : Bool) : Prop := Lc w p [.slice A l c, .int .i64 (i : Int), .int .i64 e, .bool g]
theorem bnil : ∀ x ∈ ([] : List Int), (Lit.int .u8 x).wf = true := fun z hz => by cases hz
section
variable {α : Type} {Q : α → Prop} {n : Nat} {w w0 : World} {A B C : Option Addr} {l c m d p i : Nat} {k e : Int} {g : Bool} {bs zs : List Int}
theorem getR_err (hb : ∀ z ∈ zs, (Lit.int .u8 z).wf = true) (hi : i ≤ zs.length) : 0 ≤ (getR zs (i : Int)).1 ∧ (getR zs (i : Int)).1 < 2 ^ 64 := by
  by_cases h : (getR zs (i : Int)).2.2 = 0
  · obtain ⟨y, h1, h2, _⟩ := getR_can (u8b hb) h
    rw [h2]; simp only; omega
  · have : ∀ (cs : List Int) (j : Nat) (acc : Int), (gv (i : Int) j acc cs).2.2 ≠ 0 → (gv (i : Int) j acc cs).1 = 0 := by
      intro cs
      induction cs with
      | nil => intro j acc _; rfl
      | cons z cs ih =>
        intro j acc h
        simp only [gv] at h ⊢
        split
        · rfl
        · rename_i hb; rw [if_neg hb] at h
          split
          · rename_i h8; rw [if_pos h8] at h; simp at h
          · rename_i h8; rw [if_neg h8] at h; exact ih _ _ h
    have e : getR zs (i : Int) = gv (i : Int) 0 0 (zs.drop i) := by unfold getR; rw [if_neg (by omega), if_neg (by omega), Int.toNat_natCast]
    rw [e] at h ⊢
    rw [this _ _ _ h]; omega
theorem number_spec (hr : Rd w p A l c i e g) (hk : Kp w0 w) (hp : w0.heap.size ≤ p) (hb : Bv .u8 w0 A l c zs) (hi : i ≤ l) (hl : l ≤ 2 ^ 38) (hn : 2 ^ 59 < n) :
    Rt (edit_reader_number n [.pointer (some ⟨p, 0, none⟩)] w) fun r => ∃ v w' i' e', r = ([.int .u64 v], w') ∧ Rd w' p A l c i' e' g ∧ i' ≤ l ∧ Gx (fun k => k = p) w w' ∧ (0 ≤ v ∧ v < 2 ^ 64) ∧ Stp numP zs i e i' e' v := by
  have hzl := hb.len
  rw [edit_reader_number_eq]
  refine Rt.fin ?_
  (repeat (first | (with_reducible (first | refine Rt.fin ?_ | refine Rt.tL ?_ | refine Rt.tI ?_ | refine Rt.tB ?_ | refine Rt.tS ?_ | refine Rt.tP ?_ | refine Rt.tD ?_ | refine Rt.tM ?_ | refine Rt.tC ?_ | refine Rt.tN ?_ | refine Rt.tA ?_ | refine Rt.tG ?_ | refine Rt.tF ?_ | refine Rt.os ?_ | refine Rt.clS ?_ | refine Rt.jmN ?_ | refine Rt.jbN ?_ | refine Rt.jbE ?_)) | ((with_reducible (first | apply Rt.ld0 | apply Rt.ld1 | apply Rt.ld2 | apply Rt.ld3 | apply Rt.ld4 | apply Rt.ld5)); first | assumption | exact Lc.kp (by assumption) (by assumption)) | ((with_reducible apply Rt.ol); first | assumption | exact cell_kp (by assumption) (by assumption)) | ((with_reducible apply Rt.ckR); focus ((repeat (first | (with_reducible (first | refine Rt.fin ?_ | refine Rt.tL ?_ | refine Rt.tI ?_ | refine Rt.tB ?_ | refine Rt.tS ?_ | refine Rt.tP ?_ | refine Rt.tD ?_ | refine Rt.tM ?_ | refine Rt.tC ?_ | refine Rt.tN ?_ | refine Rt.tA ?_ | refine Rt.tG ?_ | refine Rt.tF ?_ | refine Rt.os ?_ | refine Rt.clS ?_ | refine Rt.jmN ?_ | refine Rt.jbN ?_ | refine Rt.jbE ?_)) | ((with_reducible (first | apply Rt.ld0 | apply Rt.ld1 | apply Rt.ld2 | apply Rt.ld3 | apply Rt.ld4 | apply Rt.ld5)); first | assumption | exact Lc.kp (by assumption) (by assumption)) | ((with_reducible apply Rt.ol); first | assumption | exact cell_kp (by assumption) (by assumption)))); exact Rt.some' rfl))))
  refine Rt.cN (fun he => ?_) fun he => Rt.some' ⟨rfl, 0, w, i, e, rfl, hr, hi, Gx.rfl' _ w, by decide, fun _ => rfl, fun h => absurd h he, fun h => absurd h he⟩
  have d1 : Kp w w.drew := (Kp.rfl' w).dr
  have hrd := Lc.kp hr d1
  (repeat (first | (with_reducible (first | refine Rt.fin ?_ | refine Rt.tL ?_ | refine Rt.tI ?_ | refine Rt.tB ?_ | refine Rt.tS ?_ | refine Rt.tP ?_ | refine Rt.tD ?_ | refine Rt.tM ?_ | refine Rt.tC ?_ | refine Rt.tN ?_ | refine Rt.tA ?_ | refine Rt.tG ?_ | refine Rt.tF ?_ | refine Rt.os ?_ | refine Rt.clS ?_ | refine Rt.jmN ?_ | refine Rt.jbN ?_ | refine Rt.jbE ?_)) | ((with_reducible (first | apply Rt.ld0 | apply Rt.ld1 | apply Rt.ld2 | apply Rt.ld3 | apply Rt.ld4 | apply Rt.ld5)); first | assumption | exact Lc.kp (by assumption) (by assumption)) | ((with_reducible apply Rt.ol); first | assumption | exact cell_kp (by assumption) (by assumption)) | ((with_reducible apply Rt.ckR); focus ((repeat (first | (with_reducible (first | refine Rt.fin ?_ | refine Rt.tL ?_ | refine Rt.tI ?_ | refine Rt.tB ?_ | refine Rt.tS ?_ | refine Rt.tP ?_ | refine Rt.tD ?_ | refine Rt.tM ?_ | refine Rt.tC ?_ | refine Rt.tN ?_ | refine Rt.tA ?_ | refine Rt.tG ?_ | refine Rt.tF ?_ | refine Rt.os ?_ | refine Rt.clS ?_ | refine Rt.jmN ?_ | refine Rt.jbN ?_ | refine Rt.jbE ?_)) | ((with_reducible (first | apply Rt.ld0 | apply Rt.ld1 | apply Rt.ld2 | apply Rt.ld3 | apply Rt.ld4 | apply Rt.ld5)); first | assumption | exact Lc.kp (by assumption) (by assumption)) | ((with_reducible apply Rt.ol); first | assumption | exact cell_kp (by assumption) (by assumption)))); exact Rt.some' rfl))))
  rw [GetS (hb.kp (hk.tr d1)) (by omega) hn, clG]
  have hg0 := getR_err (i := i) hb.rng (by omega)
  have hnum : numP zs i = ((getR zs (i : Int)).2.2, (getR zs (i : Int)).1, (getR zs (i : Int)).2.1.toNat) := rfl
  have hin : (getR zs (i : Int)).2.2 = 0 → i ≤ (getR zs (i : Int)).2.1.toNat ∧ (getR zs (i : Int)).2.1.toNat ≤ l ∧ 0 ≤ (getR zs (i : Int)).2.1 := by
    intro h
    obtain ⟨y, h1, h2, h3, _⟩ := getR_can (u8b hb.rng) h
    rw [h2]; simp only; omega
  generalize getR zs (i : Int) = r at hg0 hnum hin ⊢
  obtain ⟨gn, gt, ge⟩ := r
  simp only at hg0 hnum hin ⊢
  refine Rt.cN (fun h0 => ?_) fun h0 => ?_
  · obtain ⟨h1, h2, h3⟩ := hin h0
    refine Rt.os (Rt.st1 hrd fun w2 l2 g2 => ?_)
    refine Rt.some' ⟨rfl, gn, w2, gt.toNat, e, rfl, ?_, h2, d1.gx.tr g2, hg0, fun h => absurd he h, fun _ => by rw [hnum]; show e = ge; omega, fun _ _ => by rw [hnum]; exact ⟨rfl, rfl⟩⟩
    show Lc w2 p [.slice A l c, .int .i64 ((gt.toNat : Nat) : Int), .int .i64 e, .bool g]
    rw [show ((gt.toNat : Nat) : Int) = gt by omega]; exact l2
  · refine Rt.os (Rt.st2 hrd fun w2 l2 g2 => ?_)
    exact Rt.some' ⟨rfl, 0, w2, i, ge, rfl, l2, hi, d1.gx.tr g2, by decide, fun h => absurd he h, fun _ => by rw [hnum], fun _ h => absurd h h0⟩
theorem int_spec (hr : Rd w p A l c i e g) (hk : Kp w0 w) (hp : w0.heap.size ≤ p) (hb : Bv .u8 w0 A l c zs) (hi : i ≤ l) (hl : l ≤ 2 ^ 38) (hn : 2 ^ 59 < n) :
    Rt (edit_reader_int n [.pointer (some ⟨p, 0, none⟩)] w) fun r => ∃ x v w' i' e' g', r = ([.int .i64 x], w') ∧ Rd w' p A l c i' e' g' ∧ i' ≤ l ∧ Gx (fun k => k = p) w w' ∧ (0 ≤ x ∧ x ≤ 2 ^ 40) ∧ (0 ≤ v ∧ v < 2 ^ 64) ∧ Stp numP zs i e i' e' v ∧ (g' = false → g = false ∧ x = v) ∧ (g' = true → g = true ∨ v > 2 ^ 40) := by
  rw [edit_reader_int_eq]
  refine Rt.fin (Rt.call (number_spec (n := n) hr hk hp hb hi hl hn) ?_)
  rintro _ w1 ⟨v, _, i', e', hr1, h1, h2, g1, h3, h4⟩
  cases hr1
  (repeat (first | (with_reducible (first | refine Rt.fin ?_ | refine Rt.tL ?_ | refine Rt.tI ?_ | refine Rt.tB ?_ | refine Rt.tS ?_ | refine Rt.tP ?_ | refine Rt.tD ?_ | refine Rt.tM ?_ | refine Rt.tC ?_ | refine Rt.tN ?_ | refine Rt.tA ?_ | refine Rt.tG ?_ | refine Rt.tF ?_ | refine Rt.os ?_ | refine Rt.clS ?_ | refine Rt.jmN ?_ | refine Rt.jbN ?_ | refine Rt.jbE ?_)) | ((with_reducible (first | apply Rt.ld0 | apply Rt.ld1 | apply Rt.ld2 | apply Rt.ld3 | apply Rt.ld4 | apply Rt.ld5)); first | assumption | exact Lc.kp (by assumption) (by assumption)) | ((with_reducible apply Rt.ol); first | assumption | exact cell_kp (by assumption) (by assumption)) | ((with_reducible apply Rt.ckR); focus ((repeat (first | (with_reducible (first | refine Rt.fin ?_ | refine Rt.tL ?_ | refine Rt.tI ?_ | refine Rt.tB ?_ | refine Rt.tS ?_ | refine Rt.tP ?_ | refine Rt.tD ?_ | refine Rt.tM ?_ | refine Rt.tC ?_ | refine Rt.tN ?_ | refine Rt.tA ?_ | refine Rt.tG ?_ | refine Rt.tF ?_ | refine Rt.os ?_ | refine Rt.clS ?_ | refine Rt.jmN ?_ | refine Rt.jbN ?_ | refine Rt.jbE ?_)) | ((with_reducible (first | apply Rt.ld0 | apply Rt.ld1 | apply Rt.ld2 | apply Rt.ld3 | apply Rt.ld4 | apply Rt.ld5)); first | assumption | exact Lc.kp (by assumption) (by assumption)) | ((with_reducible apply Rt.ol); first | assumption | exact cell_kp (by assumption) (by assumption)))); exact Rt.some' rfl))))
  refine Rt.cD (fun h => ?_) fun h => ?_
  · refine Rt.os (Rt.st3 h1 fun w2 l2 g2 => ?_)
    exact Rt.some' ⟨rfl, 0, v, w2, i', e', true, rfl, l2, h2, g1.tr g2, by decide, h3, h4, (fun h => by cases h), fun _ => .inr (by omega)⟩
  · rw [i64_in v (by omega)]
    exact Rt.some' ⟨rfl, v, v, w1, i', e', g, rfl, h1, h2, g1, by omega, h3, h4, fun h => ⟨h, rfl⟩, fun h => .inl h⟩
theorem limited_spec (hr : Rd w p A l c i e g) (hk : Kp w0 w) (hp : w0.heap.size ≤ p) (hb : Bv .u8 w0 A l c zs) (hi : i ≤ l) (hl : l ≤ 2 ^ 38) (hn : 2 ^ 59 < n) {b : Int} (hb0 : 0 ≤ b ∧ b ≤ 300) :
    Rt (edit_reader_limited n [.pointer (some ⟨p, 0, none⟩), .int .u64 b] w) fun r => ∃ v w' i' e', r = ([.int .i64 v], w') ∧ Rd w' p A l c i' e' g ∧ i' ≤ l ∧ Gx (fun k => k = p) w w' ∧ (0 ≤ v ∧ v ≤ b) ∧ (e' ≠ 0 → v = 0) ∧ Stp (limP b) zs i e i' e' v := by
  rw [edit_reader_limited_eq]
  refine Rt.fin (Rt.call (number_spec (n := n) hr hk hp hb hi hl hn) ?_)
  rintro _ w1 ⟨v, _, i', e', hr1, h1, h2, g1, h3, h4⟩
  cases hr1
  (repeat (first | (with_reducible (first | refine Rt.fin ?_ | refine Rt.tL ?_ | refine Rt.tI ?_ | refine Rt.tB ?_ | refine Rt.tS ?_ | refine Rt.tP ?_ | refine Rt.tD ?_ | refine Rt.tM ?_ | refine Rt.tC ?_ | refine Rt.tN ?_ | refine Rt.tA ?_ | refine Rt.tG ?_ | refine Rt.tF ?_ | refine Rt.os ?_ | refine Rt.clS ?_ | refine Rt.jmN ?_ | refine Rt.jbN ?_ | refine Rt.jbE ?_)) | ((with_reducible (first | apply Rt.ld0 | apply Rt.ld1 | apply Rt.ld2 | apply Rt.ld3 | apply Rt.ld4 | apply Rt.ld5)); first | assumption | exact Lc.kp (by assumption) (by assumption)) | ((with_reducible apply Rt.ol); first | assumption | exact cell_kp (by assumption) (by assumption)) | ((with_reducible apply Rt.ckR); focus ((repeat (first | (with_reducible (first | refine Rt.fin ?_ | refine Rt.tL ?_ | refine Rt.tI ?_ | refine Rt.tB ?_ | refine Rt.tS ?_ | refine Rt.tP ?_ | refine Rt.tD ?_ | refine Rt.tM ?_ | refine Rt.tC ?_ | refine Rt.tN ?_ | refine Rt.tA ?_ | refine Rt.tG ?_ | refine Rt.tF ?_ | refine Rt.os ?_ | refine Rt.clS ?_ | refine Rt.jmN ?_ | refine Rt.jbN ?_ | refine Rt.jbE ?_)) | ((with_reducible (first | apply Rt.ld0 | apply Rt.ld1 | apply Rt.ld2 | apply Rt.ld3 | apply Rt.ld4 | apply Rt.ld5)); first | assumption | exact Lc.kp (by assumption) (by assumption)) | ((with_reducible apply Rt.ol); first | assumption | exact cell_kp (by assumption) (by assumption)))); exact Rt.some' rfl))))
  have step : ∀ {e2 : Int}, e2 = (if e' = 0 ∧ v > b then 2 else e') → Stp (limP b) zs i e i' e2 (if e2 = 0 then v else 0) := by
    intro e2 he2
    have h5 : Stp (if v > b then failP 2 else retP v : Pa Int) zs i' e' i' e2 (if e2 = 0 then v else 0) := by
      by_cases hv : v > b
      · rw [if_pos hv]
        refine ⟨fun h => by rw [if_neg (fun h' => h h'.1)] at he2; exact he2, fun h => by rw [if_pos ⟨h, hv⟩] at he2; exact he2, fun h h' => by rw [if_pos ⟨h, hv⟩] at he2; omega⟩
      · rw [if_neg hv]
        rw [if_neg (fun h' => hv h'.2)] at he2
        refine ⟨fun _ => he2, fun h => by rw [he2]; exact h, fun h h' => ⟨rfl, by rw [if_pos h']; rfl⟩⟩
    exact h4.bind h5
  refine Rt.jm (Rt.mono (Q' := fun r => r.ex = .norm ∧ r.vals = [.pointer (some ⟨p, 0, none⟩), .int .u64 v] ∧ Rd r.w p A l c i' (if e' = 0 ∧ v > b then 2 else e') g ∧ Gx (fun k => k = p) w r.w) ?_ ?_)
  · (repeat (first | (with_reducible (first | refine Rt.fin ?_ | refine Rt.tL ?_ | refine Rt.tI ?_ | refine Rt.tB ?_ | refine Rt.tS ?_ | refine Rt.tP ?_ | refine Rt.tD ?_ | refine Rt.tM ?_ | refine Rt.tC ?_ | refine Rt.tN ?_ | refine Rt.tA ?_ | refine Rt.tG ?_ | refine Rt.tF ?_ | refine Rt.os ?_ | refine Rt.clS ?_ | refine Rt.jmN ?_ | refine Rt.jbN ?_ | refine Rt.jbE ?_)) | ((with_reducible (first | apply Rt.ld0 | apply Rt.ld1 | apply Rt.ld2 | apply Rt.ld3 | apply Rt.ld4 | apply Rt.ld5)); first | assumption | exact Lc.kp (by assumption) (by assumption)) | ((with_reducible apply Rt.ol); first | assumption | exact cell_kp (by assumption) (by assumption)) | ((with_reducible apply Rt.ckR); focus ((repeat (first | (with_reducible (first | refine Rt.fin ?_ | refine Rt.tL ?_ | refine Rt.tI ?_ | refine Rt.tB ?_ | refine Rt.tS ?_ | refine Rt.tP ?_ | refine Rt.tD ?_ | refine Rt.tM ?_ | refine Rt.tC ?_ | refine Rt.tN ?_ | refine Rt.tA ?_ | refine Rt.tG ?_ | refine Rt.tF ?_ | refine Rt.os ?_ | refine Rt.clS ?_ | refine Rt.jmN ?_ | refine Rt.jbN ?_ | refine Rt.jbE ?_)) | ((with_reducible (first | apply Rt.ld0 | apply Rt.ld1 | apply Rt.ld2 | apply Rt.ld3 | apply Rt.ld4 | apply Rt.ld5)); first | assumption | exact Lc.kp (by assumption) (by assumption)) | ((with_reducible apply Rt.ol); first | assumption | exact cell_kp (by assumption) (by assumption)))); exact Rt.some' rfl))))
    refine Rt.cQ (fun h0 => Rt.cD (fun h5 => ?_) fun h5 => ?_) fun h0 => ?_
    · refine Rt.os (Rt.st2 h1 fun w2 l2 g2 => ?_)
      exact Rt.some' ⟨rfl, rfl, by rw [if_pos ⟨h0, h5⟩]; exact l2, g1.tr g2⟩
    · exact Rt.some' ⟨rfl, rfl, by rw [if_neg fun h => h5 h.2]; exact h1, g1⟩
    · exact Rt.some' ⟨rfl, rfl, by rw [if_neg fun h => h0 h.1]; exact h1, g1⟩
  · rintro ⟨ex, vs, w2⟩ ⟨f1, f2, f3, f4⟩
    dsimp only at f1 f2 f3 f4
    subst f1 f2
    refine ⟨rfl, ?_⟩
    dsimp only
    generalize he2 : (if e' = 0 ∧ v > b then 2 else e') = e2 at f3
    have st := step he2.symm
    (repeat (first | (with_reducible (first | refine Rt.fin ?_ | refine Rt.tL ?_ | refine Rt.tI ?_ | refine Rt.tB ?_ | refine Rt.tS ?_ | refine Rt.tP ?_ | refine Rt.tD ?_ | refine Rt.tM ?_ | refine Rt.tC ?_ | refine Rt.tN ?_ | refine Rt.tA ?_ | refine Rt.tG ?_ | refine Rt.tF ?_ | refine Rt.os ?_ | refine Rt.clS ?_ | refine Rt.jmN ?_ | refine Rt.jbN ?_ | refine Rt.jbE ?_)) | ((with_reducible (first | apply Rt.ld0 | apply Rt.ld1 | apply Rt.ld2 | apply Rt.ld3 | apply Rt.ld4 | apply Rt.ld5)); first | assumption | exact Lc.kp (by assumption) (by assumption)) | ((with_reducible apply Rt.ol); first | assumption | exact cell_kp (by assumption) (by assumption)) | ((with_reducible apply Rt.ckR); focus ((repeat (first | (with_reducible (first | refine Rt.fin ?_ | refine Rt.tL ?_ | refine Rt.tI ?_ | refine Rt.tB ?_ | refine Rt.tS ?_ | refine Rt.tP ?_ | refine Rt.tD ?_ | refine Rt.tM ?_ | refine Rt.tC ?_ | refine Rt.tN ?_ | refine Rt.tA ?_ | refine Rt.tG ?_ | refine Rt.tF ?_ | refine Rt.os ?_ | refine Rt.clS ?_ | refine Rt.jmN ?_ | refine Rt.jbN ?_ | refine Rt.jbE ?_)) | ((with_reducible (first | apply Rt.ld0 | apply Rt.ld1 | apply Rt.ld2 | apply Rt.ld3 | apply Rt.ld4 | apply Rt.ld5)); first | assumption | exact Lc.kp (by assumption) (by assumption)) | ((with_reducible apply Rt.ol); first | assumption | exact cell_kp (by assumption) (by assumption)))); exact Rt.some' rfl))))
    refine Rt.cN (fun h0 => ?_) fun h0 => ?_
    · rw [if_pos h0] at st
      have hvb : ¬ v > b := fun h => by
        by_cases h' : e' = 0
        · rw [if_pos ⟨h', h⟩] at he2; omega
        · rw [if_neg (fun h => h' h.1)] at he2; omega
      rw [i64_in v (by omega)]
      exact Rt.some' ⟨rfl, v, w2, i', e2, rfl, f3, h2, f4, by omega, fun h => absurd h0 h, st⟩
    · rw [if_neg h0] at st
      exact Rt.some' ⟨rfl, 0, w2, i', e2, rfl, f3, h2, f4, by omega, fun _ => rfl, st⟩
theorem text_spec (hr : Rd w p A l c i e g) (hk : Kp w0 w) (hp : w0.heap.size ≤ p) (hb : Bv .u8 w0 A l c zs) (hi : i ≤ l) (hl : l ≤ 2 ^ 38) (hn : 2 ^ 59 < n) :
    Rt (edit_reader_text n [.pointer (some ⟨p, 0, none⟩)] w) fun r => ∃ B d out w' i' e', r = ([.slice B (List.length out) d], w') ∧ Rd w' p A l c i' e' g ∧ i' ≤ l ∧ Gx (fun k => k = p) w w' ∧ Own .u8 5 w' w.heap.size (.slice B out.length d) out ∧ (∀ x ∈ out, (Lit.int .u8 x).wf = true) ∧ Stp txtP zs i e i' e' out := by
  have hzl := hb.len
  have hpl := hr.lt
  rw [edit_reader_text_eq]
  refine Rt.fin (Rt.call (limited_spec (n := n) (b := 256) hr hk hp hb hi hl hn (by decide)) ?_)
  rintro _ w1 ⟨v, _, i1, e1, hr1, h1, h2, g1, h3, h30, h4⟩
  cases hr1
  (repeat (first | (with_reducible (first | refine Rt.fin ?_ | refine Rt.tL ?_ | refine Rt.tI ?_ | refine Rt.tB ?_ | refine Rt.tS ?_ | refine Rt.tP ?_ | refine Rt.tD ?_ | refine Rt.tM ?_ | refine Rt.tC ?_ | refine Rt.tN ?_ | refine Rt.tA ?_ | refine Rt.tG ?_ | refine Rt.tF ?_ | refine Rt.os ?_ | refine Rt.clS ?_ | refine Rt.jmN ?_ | refine Rt.jbN ?_ | refine Rt.jbE ?_)) | ((with_reducible (first | apply Rt.ld0 | apply Rt.ld1 | apply Rt.ld2 | apply Rt.ld3 | apply Rt.ld4 | apply Rt.ld5)); first | assumption | exact Lc.kp (by assumption) (by assumption)) | ((with_reducible apply Rt.ol); first | assumption | exact cell_kp (by assumption) (by assumption)) | ((with_reducible apply Rt.ckR); focus ((repeat (first | (with_reducible (first | refine Rt.fin ?_ | refine Rt.tL ?_ | refine Rt.tI ?_ | refine Rt.tB ?_ | refine Rt.tS ?_ | refine Rt.tP ?_ | refine Rt.tD ?_ | refine Rt.tM ?_ | refine Rt.tC ?_ | refine Rt.tN ?_ | refine Rt.tA ?_ | refine Rt.tG ?_ | refine Rt.tF ?_ | refine Rt.os ?_ | refine Rt.clS ?_ | refine Rt.jmN ?_ | refine Rt.jbN ?_ | refine Rt.jbE ?_)) | ((with_reducible (first | apply Rt.ld0 | apply Rt.ld1 | apply Rt.ld2 | apply Rt.ld3 | apply Rt.ld4 | apply Rt.ld5)); first | assumption | exact Lc.kp (by assumption) (by assumption)) | ((with_reducible apply Rt.ol); first | assumption | exact cell_kp (by assumption) (by assumption)))); exact Rt.some' rfl))))
  have d1 : Kp w1 w1.drew := (Kp.rfl' w1).dr
  have h1d := Lc.kp h1 d1
  refine Rt.jm (Rt.mono (Q' := fun r => r.ex = .norm ∧ r.vals = [.pointer (some ⟨p, 0, none⟩), .int .i64 v] ∧ Rd r.w p A l c i1 (if e1 = 0 ∧ l < i1 + v.toNat then 4 else e1) g ∧ Gx (fun k => k = p) w r.w) ?_ ?_)
  · (repeat (first | (with_reducible (first | refine Rt.fin ?_ | refine Rt.tL ?_ | refine Rt.tI ?_ | refine Rt.tB ?_ | refine Rt.tS ?_ | refine Rt.tP ?_ | refine Rt.tD ?_ | refine Rt.tM ?_ | refine Rt.tC ?_ | refine Rt.tN ?_ | refine Rt.tA ?_ | refine Rt.tG ?_ | refine Rt.tF ?_ | refine Rt.os ?_ | refine Rt.clS ?_ | refine Rt.jmN ?_ | refine Rt.jbN ?_ | refine Rt.jbE ?_)) | ((with_reducible (first | apply Rt.ld0 | apply Rt.ld1 | apply Rt.ld2 | apply Rt.ld3 | apply Rt.ld4 | apply Rt.ld5)); first | assumption | exact Lc.kp (by assumption) (by assumption)) | ((with_reducible apply Rt.ol); first | assumption | exact cell_kp (by assumption) (by assumption)) | ((with_reducible apply Rt.ckR); focus ((repeat (first | (with_reducible (first | refine Rt.fin ?_ | refine Rt.tL ?_ | refine Rt.tI ?_ | refine Rt.tB ?_ | refine Rt.tS ?_ | refine Rt.tP ?_ | refine Rt.tD ?_ | refine Rt.tM ?_ | refine Rt.tC ?_ | refine Rt.tN ?_ | refine Rt.tA ?_ | refine Rt.tG ?_ | refine Rt.tF ?_ | refine Rt.os ?_ | refine Rt.clS ?_ | refine Rt.jmN ?_ | refine Rt.jbN ?_ | refine Rt.jbE ?_)) | ((with_reducible (first | apply Rt.ld0 | apply Rt.ld1 | apply Rt.ld2 | apply Rt.ld3 | apply Rt.ld4 | apply Rt.ld5)); first | assumption | exact Lc.kp (by assumption) (by assumption)) | ((with_reducible apply Rt.ol); first | assumption | exact cell_kp (by assumption) (by assumption)))); exact Rt.some' rfl))))
    refine Rt.cQ (fun h0 => ?_) fun h0 => Rt.some' ⟨rfl, rfl, by rw [if_neg fun h => h0 h.1]; exact h1d, g1.tr d1.gx⟩
    (repeat (first | (with_reducible (first | refine Rt.fin ?_ | refine Rt.tL ?_ | refine Rt.tI ?_ | refine Rt.tB ?_ | refine Rt.tS ?_ | refine Rt.tP ?_ | refine Rt.tD ?_ | refine Rt.tM ?_ | refine Rt.tC ?_ | refine Rt.tN ?_ | refine Rt.tA ?_ | refine Rt.tG ?_ | refine Rt.tF ?_ | refine Rt.os ?_ | refine Rt.clS ?_ | refine Rt.jmN ?_ | refine Rt.jbN ?_ | refine Rt.jbE ?_)) | ((with_reducible (first | apply Rt.ld0 | apply Rt.ld1 | apply Rt.ld2 | apply Rt.ld3 | apply Rt.ld4 | apply Rt.ld5)); first | assumption | exact Lc.kp (by assumption) (by assumption)) | ((with_reducible apply Rt.ol); first | assumption | exact cell_kp (by assumption) (by assumption)) | ((with_reducible apply Rt.ckR); focus ((repeat (first | (with_reducible (first | refine Rt.fin ?_ | refine Rt.tL ?_ | refine Rt.tI ?_ | refine Rt.tB ?_ | refine Rt.tS ?_ | refine Rt.tP ?_ | refine Rt.tD ?_ | refine Rt.tM ?_ | refine Rt.tC ?_ | refine Rt.tN ?_ | refine Rt.tA ?_ | refine Rt.tG ?_ | refine Rt.tF ?_ | refine Rt.os ?_ | refine Rt.clS ?_ | refine Rt.jmN ?_ | refine Rt.jbN ?_ | refine Rt.jbE ?_)) | ((with_reducible (first | apply Rt.ld0 | apply Rt.ld1 | apply Rt.ld2 | apply Rt.ld3 | apply Rt.ld4 | apply Rt.ld5)); first | assumption | exact Lc.kp (by assumption) (by assumption)) | ((with_reducible apply Rt.ol); first | assumption | exact cell_kp (by assumption) (by assumption)))); exact Rt.some' rfl))))
    rw [i64_in ((l : Int) - i1) (by omega)]
    refine Rt.cD (fun h5 => ?_) fun h5 => ?_
    · refine Rt.os (Rt.st2 h1d fun w2 l2 g2 => ?_)
      exact Rt.some' ⟨rfl, rfl, by rw [if_pos ⟨h0, by omega⟩]; exact l2, (g1.tr d1.gx).tr g2⟩
    · exact Rt.some' ⟨rfl, rfl, by rw [if_neg fun h => by omega]; exact h1d, g1.tr d1.gx⟩
  · rintro ⟨ex, vs, w2⟩ ⟨f1, f2, f3, f4⟩
    dsimp only at f1 f2 f3 f4
    subst f1 f2
    refine ⟨rfl, ?_⟩
    dsimp only
    generalize he2 : (if e1 = 0 ∧ l < i1 + v.toNat then 4 else e1) = e2 at f3
    (repeat (first | (with_reducible (first | refine Rt.fin ?_ | refine Rt.tL ?_ | refine Rt.tI ?_ | refine Rt.tB ?_ | refine Rt.tS ?_ | refine Rt.tP ?_ | refine Rt.tD ?_ | refine Rt.tM ?_ | refine Rt.tC ?_ | refine Rt.tN ?_ | refine Rt.tA ?_ | refine Rt.tG ?_ | refine Rt.tF ?_ | refine Rt.os ?_ | refine Rt.clS ?_ | refine Rt.jmN ?_ | refine Rt.jbN ?_ | refine Rt.jbE ?_)) | ((with_reducible (first | apply Rt.ld0 | apply Rt.ld1 | apply Rt.ld2 | apply Rt.ld3 | apply Rt.ld4 | apply Rt.ld5)); first | assumption | exact Lc.kp (by assumption) (by assumption)) | ((with_reducible apply Rt.ol); first | assumption | exact cell_kp (by assumption) (by assumption)) | ((with_reducible apply Rt.ckR); focus ((repeat (first | (with_reducible (first | refine Rt.fin ?_ | refine Rt.tL ?_ | refine Rt.tI ?_ | refine Rt.tB ?_ | refine Rt.tS ?_ | refine Rt.tP ?_ | refine Rt.tD ?_ | refine Rt.tM ?_ | refine Rt.tC ?_ | refine Rt.tN ?_ | refine Rt.tA ?_ | refine Rt.tG ?_ | refine Rt.tF ?_ | refine Rt.os ?_ | refine Rt.clS ?_ | refine Rt.jmN ?_ | refine Rt.jbN ?_ | refine Rt.jbE ?_)) | ((with_reducible (first | apply Rt.ld0 | apply Rt.ld1 | apply Rt.ld2 | apply Rt.ld3 | apply Rt.ld4 | apply Rt.ld5)); first | assumption | exact Lc.kp (by assumption) (by assumption)) | ((with_reducible apply Rt.ol); first | assumption | exact cell_kp (by assumption) (by assumption)))); exact Rt.some' rfl))))
    refine Rt.cN (fun h0 => ?_) fun h0 => ?_
    · have hv : e1 = 0 ∧ ¬ l < i1 + v.toNat := by
        by_cases h : e1 = 0 ∧ l < i1 + v.toNat
        · rw [if_pos h] at he2; omega
        · rw [if_neg h] at he2; exact ⟨by omega, fun h' => h ⟨by omega, h'⟩⟩
      subst h0
      (repeat (first | (with_reducible (first | refine Rt.fin ?_ | refine Rt.tL ?_ | refine Rt.tI ?_ | refine Rt.tB ?_ | refine Rt.tS ?_ | refine Rt.tP ?_ | refine Rt.tD ?_ | refine Rt.tM ?_ | refine Rt.tC ?_ | refine Rt.tN ?_ | refine Rt.tA ?_ | refine Rt.tG ?_ | refine Rt.tF ?_ | refine Rt.os ?_ | refine Rt.clS ?_ | refine Rt.jmN ?_ | refine Rt.jbN ?_ | refine Rt.jbE ?_)) | ((with_reducible (first | apply Rt.ld0 | apply Rt.ld1 | apply Rt.ld2 | apply Rt.ld3 | apply Rt.ld4 | apply Rt.ld5)); first | assumption | exact Lc.kp (by assumption) (by assumption)) | ((with_reducible apply Rt.ol); first | assumption | exact cell_kp (by assumption) (by assumption)) | ((with_reducible apply Rt.ckR); focus ((repeat (first | (with_reducible (first | refine Rt.fin ?_ | refine Rt.tL ?_ | refine Rt.tI ?_ | refine Rt.tB ?_ | refine Rt.tS ?_ | refine Rt.tP ?_ | refine Rt.tD ?_ | refine Rt.tM ?_ | refine Rt.tC ?_ | refine Rt.tN ?_ | refine Rt.tA ?_ | refine Rt.tG ?_ | refine Rt.tF ?_ | refine Rt.os ?_ | refine Rt.clS ?_ | refine Rt.jmN ?_ | refine Rt.jbN ?_ | refine Rt.jbE ?_)) | ((with_reducible (first | apply Rt.ld0 | apply Rt.ld1 | apply Rt.ld2 | apply Rt.ld3 | apply Rt.ld4 | apply Rt.ld5)); first | assumption | exact Lc.kp (by assumption) (by assumption)) | ((with_reducible apply Rt.ol); first | assumption | exact cell_kp (by assumption) (by assumption)))); exact Rt.some' rfl))))
      rw [i64_in ((i1 : Int) + v) (by omega)]
      refine Rt.st1 f3 fun w3 l3 g3 => ?_
      have l3' : Lc w3.drew p [.slice A l c, .int .i64 ((i1 : Int) + v), .int .i64 0, .bool g] := l3
      (repeat (first | (with_reducible (first | refine Rt.fin ?_ | refine Rt.tL ?_ | refine Rt.tI ?_ | refine Rt.tB ?_ | refine Rt.tS ?_ | refine Rt.tP ?_ | refine Rt.tD ?_ | refine Rt.tM ?_ | refine Rt.tC ?_ | refine Rt.tN ?_ | refine Rt.tA ?_ | refine Rt.tG ?_ | refine Rt.tF ?_ | refine Rt.os ?_ | refine Rt.clS ?_ | refine Rt.jmN ?_ | refine Rt.jbN ?_ | refine Rt.jbE ?_)) | ((with_reducible (first | apply Rt.ld0 | apply Rt.ld1 | apply Rt.ld2 | apply Rt.ld3 | apply Rt.ld4 | apply Rt.ld5)); first | assumption | exact Lc.kp (by assumption) (by assumption)) | ((with_reducible apply Rt.ol); first | assumption | exact cell_kp (by assumption) (by assumption)) | ((with_reducible apply Rt.ckR); focus ((repeat (first | (with_reducible (first | refine Rt.fin ?_ | refine Rt.tL ?_ | refine Rt.tI ?_ | refine Rt.tB ?_ | refine Rt.tS ?_ | refine Rt.tP ?_ | refine Rt.tD ?_ | refine Rt.tM ?_ | refine Rt.tC ?_ | refine Rt.tN ?_ | refine Rt.tA ?_ | refine Rt.tG ?_ | refine Rt.tF ?_ | refine Rt.os ?_ | refine Rt.clS ?_ | refine Rt.jmN ?_ | refine Rt.jbN ?_ | refine Rt.jbE ?_)) | ((with_reducible (first | apply Rt.ld0 | apply Rt.ld1 | apply Rt.ld2 | apply Rt.ld3 | apply Rt.ld4 | apply Rt.ld5)); first | assumption | exact Lc.kp (by assumption) (by assumption)) | ((with_reducible apply Rt.ol); first | assumption | exact cell_kp (by assumption) (by assumption)))); exact Rt.some' rfl))))
      rw [i64_in ((i1 : Int) + v - v) (by omega)]
      have hg3 := (f4.tr g3).dr
      have k3 : Kp w0 w3.drew := hk.tx hg3 fun j hj => by omega
      refine Rt.cut (hb.kp k3) (by omega) (by omega) (by omega) fun B hB => ?_
      have e3 : ((i1 : Int) + v).toNat - ((i1 : Int) + v - v).toNat = v.toNat := by omega
      have e4 : (zs.take ((i1 : Int) + v).toNat).drop ((i1 : Int) + v - v).toNat = slc zs i1 v.toNat := by
        rw [show ((i1 : Int) + v).toNat = i1 + v.toNat by omega, show ((i1 : Int) + v - v).toNat = i1 by omega, List.drop_take]; simp [slc]
      rw [e3, e4] at hB
      rw [e3]
      have et : takeP v.toNat zs i1 = (0, slc zs i1 v.toNat, i1 + v.toNat) := by unfold takeP; rw [if_neg (by omega)]
      refine Rt.cO (Clone_spec hB (by omega)) fun D dd w4 o4 k4 => ?_
      refine Rt.some' ⟨rfl, D, dd, slc zs i1 v.toNat, w4, i1 + v.toNat, 0, rfl, ?_, by omega, hg3.tr k4.gx, o4.mono hg3.size, hB.rng, ?_⟩
      · show Lc w4 p [.slice A l c, .int .i64 ((i1 + v.toNat : Nat) : Int), .int .i64 0, .bool g]
        rw [show ((i1 + v.toNat : Nat) : Int) = (i1 : Int) + v by omega]; exact l3'.kp k4
      · refine h4.bind ⟨fun h => by omega, fun _ => by rw [et], fun _ _ => by rw [et]; exact ⟨rfl, rfl⟩⟩
    · refine Rt.some' ⟨rfl, none, 0, [], w2, i1, e2, rfl, f3, h2, f4, Own.nil _ _, bnil, ?_⟩
      refine h4.bind ⟨fun h => by rw [if_neg (fun h' => h h'.1)] at he2; exact he2.symm, fun h => ?_, fun _ h' => absurd h' h0⟩
      have hlt : l < i1 + v.toNat := by
        by_cases h' : l < i1 + v.toNat
        · exact h'
        · rw [if_neg (by omega)] at he2; omega
      rw [if_pos ⟨h, hlt⟩] at he2
      unfold takeP
      rw [if_pos (by omega)]
      exact he2.symm
end
end Go.Proofs.Ytdnbpgakmbamoaa.Ed
