/- A cache: Put, Drop, a new one. -/
import Derived.Test.YtdnbpgakmbamoaaK2
namespace Go.Proofs.Ytdnbpgakmbamoaa.Ck
open Go Big Go.RowKit Go.IntWalk
set_option linter.unusedVariables false
set_option linter.unusedSimpArgs false
def freeS (n : Nat) (s : Ca) (k : Int) : Ca × Bool := freeF (n + 1) s k (2 * s.l.length)
def putS (n : Nat) (s : Ca) (f p : Int) (bs : List Int) : Ca × Bool :=
  if (getB s f p).isSome then (getS s f p, true) else
  if (freeS n s bs.length).2 then ({ (freeS n s bs.length).1 with used := (freeS n s bs.length).1.used + bs.length, l := (freeS n s bs.length).1.l ++ [⟨f, p, bs, 1, true⟩] }, true) else ((freeS n s bs.length).1, false)
def dropF : Nat → Ca → Int → Int → Nat → Ca × Int
  | 0, s, _, n, _ => (s, n)
  | k + 1, s, f, n, i => match s.l[i]? with
    | none => (s, n)
    | some x => if x.file = f ∧ x.pins = 0 then dropF k (goneS s i) f (n + 1) i else dropF k s f n (i + 1)
theorem drop_end {k : Nat} {s : Ca} {f n : Int} {i : Nat} (h : s.l[i]? = none) : dropF (k + 1) s f n i = (s, n) := by
  show (match s.l[i]? with
    | none => (s, n)
    | some x => if x.file = f ∧ x.pins = 0 then dropF k (goneS s i) f (n + 1) i else dropF k s f n (i + 1)) = _
  rw [h]
theorem drop_gone {k : Nat} {s : Ca} {f n : Int} {i : Nat} {x : Slo} (h : s.l[i]? = some x) (hx : x.file = f ∧ x.pins = 0) : dropF (k + 1) s f n i = dropF k (goneS s i) f (n + 1) i := by
  show (match s.l[i]? with
    | none => (s, n)
    | some x => if x.file = f ∧ x.pins = 0 then dropF k (goneS s i) f (n + 1) i else dropF k s f n (i + 1)) = _
  rw [h]
  show (if x.file = f ∧ x.pins = 0 then _ else _) = _
  rw [if_pos hx]
theorem drop_stay {k : Nat} {s : Ca} {f n : Int} {i : Nat} {x : Slo} (h : s.l[i]? = some x) (hx : ¬ (x.file = f ∧ x.pins = 0)) : dropF (k + 1) s f n i = dropF k s f n (i + 1) := by
  show (match s.l[i]? with
    | none => (s, n)
    | some x => if x.file = f ∧ x.pins = 0 then dropF k (goneS s i) f (n + 1) i else dropF k s f n (i + 1)) = _
  rw [h]
  show (if x.file = f ∧ x.pins = 0 then _ else _) = _
  rw [if_neg hx]
theorem freeF_ok {N : Nat} {k : Int} : ∀ (m : Nat) (s : Ca) (left : Nat), Ok N s → Ok N (freeF m s k left).1
  | 0, s, left, h => h
  | m + 1, s, left, h => by
    by_cases h1 : k ≤ s.room - s.used
    · rw [free_yes h1]; exact h
    · by_cases h0 : left = 0
      · rw [free_no h1 h0]; exact h
      · cases hx : s.l[s.hand]? with
        | none =>
          have : freeF (m + 1) s k left = (s, false) := by
            show (if k ≤ s.room - s.used then (s, true) else if left = 0 then (s, false) else match s.l[s.hand]? with
              | none => (s, false)
              | some x => if 0 < x.pins ∨ x.mark = true then freeF m (passS s x) k (left - 1) else freeF m (goneS s s.hand) k (2 * (goneS s s.hand).l.length)) = _
            rw [if_neg h1, if_neg h0, hx]
          rw [this]; exact h
        | some x =>
          by_cases hp : 0 < x.pins ∨ x.mark = true
          · rw [free_pass h1 h0 hx hp]; exact freeF_ok m _ _ (h.pass hx)
          · rw [free_gone h1 h0 hx hp]; exact freeF_ok m _ _ (h.gone hx)
theorem dropF_ok {N : Nat} {f : Int} : ∀ (m : Nat) (s : Ca) (n : Int) (i : Nat), Ok N s → Ok N (dropF m s f n i).1
  | 0, s, n, i, h => h
  | m + 1, s, n, i, h => by
    cases hx : s.l[i]? with
    | none => rw [drop_end hx]; exact h
    | some x =>
      by_cases hp : x.file = f ∧ x.pins = 0
      · rw [drop_gone hx hp]; exact dropF_ok m _ _ _ (h.gone hx)
      · rw [drop_stay hx hp]; exact dropF_ok m _ _ _ h
theorem Ok.up {N M : Nat} {s : Ca} (h : Ok N s) (hM : N ≤ M) (hb : M ≤ 2 ^ 20) : Ok M s :=
  ⟨h.room, h.used, fun x hx => by have := h.slot x hx; omega, Nat.le_trans h.len hM, hb, h.hand⟩
theorem Ok.setP {N : Nat} {s : Ca} {i : Nat} {x x' : Slo} (h : Ok N s) (hx : s.l[i]? = some x) (hb : x'.b = x.b) (hp : 0 ≤ x'.pins ∧ x'.pins ≤ N) : Ok N { s with l := s.l.set i x' } := by
  refine ⟨h.room, ?_, fun y hy => ?_, ?_, h.big, ?_⟩
  · show s.used = tot (s.l.set i x')
    unfold tot
    rw [sum_set hx, h.used, hb]
    unfold tot
    omega
  · rcases mem_set hy with hy | rfl
    · exact h.slot y hy
    · exact ⟨hp.1, hp.2, by rw [hb]; exact (h.slot x (List.mem_of_getElem? hx)).2.2⟩
  · show (s.l.set i x').length ≤ N
    rw [List.length_set]; exact h.len
  · show s.hand < (s.l.set i x').length ∨ _
    rw [List.length_set]; exact h.hand
theorem Ok.get {N : Nat} {s : Ca} {f p : Int} (h : Ok N s) (hN : N < 2 ^ 20) : Ok (N + 1) (getS s f p) := by
  have h' := h.up (Nat.le_succ N) hN
  unfold getS
  cases findI s.l f p with
  | none => exact h'
  | some i =>
    cases hx : s.l[i]? with
    | none => simp only [hx]; exact h'
    | some x =>
      simp only [hx]
      have := h.slot x (List.mem_of_getElem? hx)
      exact h'.setP (x' := { x with pins := x.pins + 1, mark := true }) hx rfl ⟨by show 0 ≤ x.pins + 1; omega, by show x.pins + 1 ≤ _; omega⟩
theorem Ok.rel {N : Nat} {s : Ca} {f p : Int} (h : Ok N s) : Ok N (relS s f p).1 := by
  unfold relS
  cases findI s.l f p with
  | none => exact h
  | some i =>
    cases hx : s.l[i]? with
    | none => simp only [hx]; exact h
    | some x =>
      simp only [hx]
      have := h.slot x (List.mem_of_getElem? hx)
      by_cases h0 : x.pins = 0
      · rw [if_pos h0]; exact h
      · rw [if_neg h0]
        exact h.setP (x' := { x with pins := x.pins - 1 }) hx rfl ⟨by show 0 ≤ x.pins - 1; omega, by show x.pins - 1 ≤ _; omega⟩
theorem Ok.put {N n : Nat} {s : Ca} {f p : Int} {bs : List Int} (h : Ok N s) (hN : N < 2 ^ 20) (hb : bs.length ≤ 2 ^ 20) : Ok (N + 1) (putS n s f p bs).1 := by
  unfold putS
  by_cases h1 : (getB s f p).isSome = true
  · rw [if_pos h1]; exact h.get hN
  · rw [if_neg h1]
    have hf : Ok N (freeS n s bs.length).1 := freeF_ok _ _ _ h
    have hf' := hf.up (Nat.le_succ N) hN
    by_cases h2 : (freeS n s bs.length).2 = true
    · rw [if_pos h2]
      generalize (freeS n s bs.length).1 = s' at *
      refine ⟨hf'.room, ?_, fun y hy => ?_, ?_, hf'.big, ?_⟩
      · show s'.used + bs.length = tot (s'.l ++ [(⟨f, p, bs, 1, true⟩ : Slo)])
        rw [hf.used]
        unfold tot
        rw [List.map_append, List.sum_append]; simp
      · rcases List.mem_append.1 hy with hy | hy
        · exact hf'.slot y hy
        · simp at hy; subst hy; exact ⟨(show (0 : Int) ≤ 1 by decide), by show (1 : Int) ≤ _; omega, hb⟩
      · show (s'.l ++ [(⟨f, p, bs, 1, true⟩ : Slo)]).length ≤ N + 1
        rw [List.length_append]; have := hf.len; simp; omega
      · show s'.hand < (s'.l ++ [(⟨f, p, bs, 1, true⟩ : Slo)]).length ∨ _
        rw [List.length_append]; have := hf.hand; simp; omega
    · rw [if_neg h2]; exact hf'
theorem Ok.new {r : Int} (hr : r < 2 ^ 63) : Ok 0 ⟨if 0 < r then r else 0, 0, [], 0⟩ :=
  ⟨by show 0 ≤ (if 0 < r then r else 0) ∧ (if 0 < r then r else 0) < 2 ^ 63; split <;> omega, rfl, (fun x h => by cases h), Nat.le_refl _, by decide, .inr rfl⟩
section
variable {α : Type} {Q : α → Prop} {n base cb N : Nat} {w w' w0 : World} {S T R : Nat → Prop} {s s' : Ca} {A B : Option Addr} {c m d : Nat} {gs : List Nat} {f p k : Int} {bs : List Int}
theorem free_spec (h : Cs w base cb S s) (ho : Ok N s) (hn : 2 ^ 60 < n) : Rt (clock_Cache_free n [pt cb, .int .i64 k] w) fun r => ∃ w1, r = ([.bool (freeS n s k).2], w1) ∧ Gx S w w1 ∧ Cs w1 base cb S (freeS n s k).1 := by
  have hr := ho.rng
  have hro := ho.room
  obtain ⟨R, A, c, gs, hV0, hS0⟩ := id h
  have hS' : ∀ j, CaS cb R A c gs j → S j := fun j hj => (hS0 j hj).1
  have hV := hV0.gx (T := fun _ => False) (Kp.rfl' w).dr.gx fun _ _ h => h
  have hVd := hV.gx (T := fun _ => False) (Kp.rfl' w.drew).dr.gx fun _ _ h => h
  have hgl := hV.len
  have lc := hV0.lc
  have lcd := hV.lc
  have lcdd := hVd.lc
  have hgd : Gx S w w.drew := (Gx.rfl' S w).dr
  have hgdd : Gx S w w.drew.drew := hgd.dr
  rw [clock_Cache_free_eq]
  have hfm : fuelM s.l.length (2 * s.l.length) < n := by
    have h2 := hr.2.2
    have : s.l.length * (2 * s.l.length + 1) ≤ 2 ^ 20 * (2 * 2 ^ 20 + 1) := Nat.mul_le_mul h2 (by omega)
    unfold fuelM; omega
  have hend : ∀ {w1 : World} {b : Bool} {st : Ca}, (st, b) = freeS n s k → Gx S w w1 → Cs w1 base cb S st → (fun (r : Res) => r.ex = .ret ∧ ∃ w1, (r.vals, r.w) = ([.bool (freeS n s k).2], w1) ∧ Gx S w w1 ∧ Cs w1 base cb S (freeS n s k).1) ⟨.ret, [.bool b], w1⟩ := fun e hg hc => by
    rw [← e]; exact ⟨rfl, _, rfl, hg, hc⟩
  refine Rt.fin (Rt.jmX (Rt.mono (Q' := fun r => ∃ w1, r = ⟨.ret, [.bool (freeS n s k).2], w1⟩ ∧ Gx S w w1 ∧ Cs w1 base cb S (freeS n s k).1) ?_ ?_))
  rotate_left
  · rintro r ⟨w1, rfl, h1, h2⟩
    exact .inr ⟨(by intro h; cases h), rfl, w1, rfl, h1, h2⟩
  (repeat (first | (with_reducible (first | refine Rt.fin ?_ | refine Rt.tL ?_ | refine Rt.tI ?_ | refine Rt.tB ?_ | refine Rt.tS ?_ | refine Rt.tP ?_ | refine Rt.tD ?_ | refine Rt.tM ?_ | refine Rt.tC ?_ | refine Rt.tN ?_ | refine Rt.tA ?_ | refine Rt.tG ?_ | refine Rt.tF ?_ | refine Rt.os ?_ | refine Rt.clS ?_ | refine Rt.jmN ?_ | refine Rt.jbN ?_ | refine Rt.jbE ?_)) | ((with_reducible (first | apply Rt.ld0 | apply Rt.ld1 | apply Rt.ld2 | apply Rt.ld3 | apply Rt.ld4 | apply Rt.ld5)); first | assumption | exact Lc.kp (by assumption) (by assumption)) | ((with_reducible apply Rt.ol); first | assumption | exact cell_kp (by assumption) (by assumption)) | ((with_reducible apply Rt.ckR); focus ((repeat (first | (with_reducible (first | refine Rt.fin ?_ | refine Rt.tL ?_ | refine Rt.tI ?_ | refine Rt.tB ?_ | refine Rt.tS ?_ | refine Rt.tP ?_ | refine Rt.tD ?_ | refine Rt.tM ?_ | refine Rt.tC ?_ | refine Rt.tN ?_ | refine Rt.tA ?_ | refine Rt.tG ?_ | refine Rt.tF ?_ | refine Rt.os ?_ | refine Rt.clS ?_ | refine Rt.jmN ?_ | refine Rt.jbN ?_ | refine Rt.jbE ?_)) | ((with_reducible (first | apply Rt.ld0 | apply Rt.ld1 | apply Rt.ld2 | apply Rt.ld3 | apply Rt.ld4 | apply Rt.ld5)); first | assumption | exact Lc.kp (by assumption) (by assumption)) | ((with_reducible apply Rt.ol); first | assumption | exact cell_kp (by assumption) (by assumption)))); exact Rt.some' rfl))))
  rw [i64_in (s.room - s.used) (by omega), i64_in (2 * (gs.length : Int)) (by omega)]
  have e2 : (2 * (gs.length : Int)) = ((2 * s.l.length : Nat) : Int) := by omega
  rw [e2]
  refine Rt.cD (fun hle => ?_) fun hgt => ?_
  · have e : freeS n s k = (s, true) := free_yes hle
    rw [e]
    exact Rt.some' ⟨_, rfl, hgd, hV.cs hS'⟩
  refine Rt.cQ (fun h0 => ?_) fun h0 => ?_
  · have e : freeS n s k = (s, false) := free_no hgt (by omega)
    rw [e]
    exact Rt.some' ⟨_, rfl, hgd, hV.cs hS'⟩
  have hlen : 0 < s.l.length := by omega
  have hh : s.hand < s.l.length := by rcases ho.hand with h | h <;> omega
  have hx : s.l[s.hand]? = some (s.l[s.hand]'hh) := List.getElem?_eq_getElem _
  generalize (s.l[s.hand]'hh) = x at hx
  (repeat (first | (with_reducible (first | refine Rt.fin ?_ | refine Rt.tL ?_ | refine Rt.tI ?_ | refine Rt.tB ?_ | refine Rt.tS ?_ | refine Rt.tP ?_ | refine Rt.tD ?_ | refine Rt.tM ?_ | refine Rt.tC ?_ | refine Rt.tN ?_ | refine Rt.tA ?_ | refine Rt.tG ?_ | refine Rt.tF ?_ | refine Rt.os ?_ | refine Rt.clS ?_ | refine Rt.jmN ?_ | refine Rt.jbN ?_ | refine Rt.jbE ?_)) | ((with_reducible (first | apply Rt.ld0 | apply Rt.ld1 | apply Rt.ld2 | apply Rt.ld3 | apply Rt.ld4 | apply Rt.ld5)); first | assumption | exact Lc.kp (by assumption) (by assumption)) | ((with_reducible apply Rt.ol); first | assumption | exact cell_kp (by assumption) (by assumption)) | ((with_reducible apply Rt.ckR); focus ((repeat (first | (with_reducible (first | refine Rt.fin ?_ | refine Rt.tL ?_ | refine Rt.tI ?_ | refine Rt.tB ?_ | refine Rt.tS ?_ | refine Rt.tP ?_ | refine Rt.tD ?_ | refine Rt.tM ?_ | refine Rt.tC ?_ | refine Rt.tN ?_ | refine Rt.tA ?_ | refine Rt.tG ?_ | refine Rt.tF ?_ | refine Rt.os ?_ | refine Rt.clS ?_ | refine Rt.jmN ?_ | refine Rt.jbN ?_ | refine Rt.jbE ?_)) | ((with_reducible (first | apply Rt.ld0 | apply Rt.ld1 | apply Rt.ld2 | apply Rt.ld3 | apply Rt.ld4 | apply Rt.ld5)); first | assumption | exact Lc.kp (by assumption) (by assumption)) | ((with_reducible apply Rt.ol); first | assumption | exact cell_kp (by assumption) (by assumption)))); exact Rt.some' rfl))))
  refine Rt.ixSl hVd hx fun a g B d hi hd ha hlc hb => ?_
  have hgS : S g := hS' g (.inr (.inr (.inl (List.mem_of_getElem? hi))))
  have hcS : S cb := hS' cb (.inl rfl)
  have hpass : (0 < x.pins ∨ x.mark = true) → ∀ w1, CaV w1 base cb R A c gs { s with l := s.l.set s.hand { x with mark := x.mark && decide (0 < x.pins) } } → Gx (fun k => k = g) w.drew.drew w1 → Rt (opt (some (⟨cb, 0, none⟩ : Addr)) fun ad95 => opt (w1.cell? (Addr.add ad95 3)) fun v96 => tI .i64 v96 fun n97 => opt (some (⟨cb, 0, none⟩ : Addr)) fun ad98 => stC w1 (Addr.add ad98 3) (.int .i64 (IntKind.i64.wrap (n97 + 1))) fun w99 => cl (clock_Cache_round n [.pointer (some ⟨cb, 0, none⟩)] w99) fun vs100 w101 => tN vs100 (clock_Cache_free.g0 n n (some ⟨cb, 0, none⟩) k (IntKind.i64.wrap (((2 * s.l.length : Nat) : Int) - 1)) w101)) fun r => ∃ w1, r = ⟨.ret, [.bool (freeS n s k).2], w1⟩ ∧ Gx S w w1 ∧ Cs w1 base cb S (freeS n s k).1 := fun hp w1 h1 g1 => by
    have e : freeS n s k = freeF n (passS s x) k (2 * s.l.length - 1) := free_pass hgt (by omega) hx hp
    rw [e]
    refine nextM (n := n) h1 hS' (by show s.hand < 2 ^ 30; omega) fun w2 h2 g2 => ?_
    rw [i64_in _ (by omega), show (((2 * s.l.length : Nat) : Int) - 1) = ((2 * s.l.length - 1 : Nat) : Int) by omega]
    have hpl : (passS s x).l.length = s.l.length := pass_len
    refine free_g0 hn n (passS s x) (2 * s.l.length - 1) w2 (h2.cs hS') (ho.pass hx) (by rw [hpl]; omega) (by rw [hpl]; unfold fuelM at hfm ⊢; omega) ((hgdd.tr (g1.wide fun j _ e => by rw [e]; exact hgS)).tr (g2.wide fun j _ e => by rw [e]; exact hcS))
  (repeat (first | (with_reducible (first | refine Rt.fin ?_ | refine Rt.tL ?_ | refine Rt.tI ?_ | refine Rt.tB ?_ | refine Rt.tS ?_ | refine Rt.tP ?_ | refine Rt.tD ?_ | refine Rt.tM ?_ | refine Rt.tC ?_ | refine Rt.tN ?_ | refine Rt.tA ?_ | refine Rt.tG ?_ | refine Rt.tF ?_ | refine Rt.os ?_ | refine Rt.clS ?_ | refine Rt.jmN ?_ | refine Rt.jbN ?_ | refine Rt.jbE ?_)) | ((with_reducible (first | apply Rt.ld0 | apply Rt.ld1 | apply Rt.ld2 | apply Rt.ld3 | apply Rt.ld4 | apply Rt.ld5)); first | assumption | exact Lc.kp (by assumption) (by assumption)) | ((with_reducible apply Rt.ol); first | assumption | exact cell_kp (by assumption) (by assumption)) | ((with_reducible apply Rt.ckR); focus ((repeat (first | (with_reducible (first | refine Rt.fin ?_ | refine Rt.tL ?_ | refine Rt.tI ?_ | refine Rt.tB ?_ | refine Rt.tS ?_ | refine Rt.tP ?_ | refine Rt.tD ?_ | refine Rt.tM ?_ | refine Rt.tC ?_ | refine Rt.tN ?_ | refine Rt.tA ?_ | refine Rt.tG ?_ | refine Rt.tF ?_ | refine Rt.os ?_ | refine Rt.clS ?_ | refine Rt.jmN ?_ | refine Rt.jbN ?_ | refine Rt.jbE ?_)) | ((with_reducible (first | apply Rt.ld0 | apply Rt.ld1 | apply Rt.ld2 | apply Rt.ld3 | apply Rt.ld4 | apply Rt.ld5)); first | assumption | exact Lc.kp (by assumption) (by assumption)) | ((with_reducible apply Rt.ol); first | assumption | exact cell_kp (by assumption) (by assumption)))); exact Rt.some' rfl))))
  refine Rt.cD (fun hp => ?_) fun hp => ?_
  · refine passM hVd hi hx hlc fun w1 h1 g1 => ?_
    (repeat (first | (with_reducible (first | refine Rt.fin ?_ | refine Rt.tL ?_ | refine Rt.tI ?_ | refine Rt.tB ?_ | refine Rt.tS ?_ | refine Rt.tP ?_ | refine Rt.tD ?_ | refine Rt.tM ?_ | refine Rt.tC ?_ | refine Rt.tN ?_ | refine Rt.tA ?_ | refine Rt.tG ?_ | refine Rt.tF ?_ | refine Rt.os ?_ | refine Rt.clS ?_ | refine Rt.jmN ?_ | refine Rt.jbN ?_ | refine Rt.jbE ?_)) | ((with_reducible (first | apply Rt.ld0 | apply Rt.ld1 | apply Rt.ld2 | apply Rt.ld3 | apply Rt.ld4 | apply Rt.ld5)); first | assumption | exact Lc.kp (by assumption) (by assumption)) | ((with_reducible apply Rt.ol); first | assumption | exact cell_kp (by assumption) (by assumption)) | ((with_reducible apply Rt.ckR); focus ((repeat (first | (with_reducible (first | refine Rt.fin ?_ | refine Rt.tL ?_ | refine Rt.tI ?_ | refine Rt.tB ?_ | refine Rt.tS ?_ | refine Rt.tP ?_ | refine Rt.tD ?_ | refine Rt.tM ?_ | refine Rt.tC ?_ | refine Rt.tN ?_ | refine Rt.tA ?_ | refine Rt.tG ?_ | refine Rt.tF ?_ | refine Rt.os ?_ | refine Rt.clS ?_ | refine Rt.jmN ?_ | refine Rt.jbN ?_ | refine Rt.jbE ?_)) | ((with_reducible (first | apply Rt.ld0 | apply Rt.ld1 | apply Rt.ld2 | apply Rt.ld3 | apply Rt.ld4 | apply Rt.ld5)); first | assumption | exact Lc.kp (by assumption) (by assumption)) | ((with_reducible apply Rt.ol); first | assumption | exact cell_kp (by assumption) (by assumption)))); exact Rt.some' rfl))))
    exact hpass (.inl hp) w1 h1 g1
  · (repeat (first | (with_reducible (first | refine Rt.fin ?_ | refine Rt.tL ?_ | refine Rt.tI ?_ | refine Rt.tB ?_ | refine Rt.tS ?_ | refine Rt.tP ?_ | refine Rt.tD ?_ | refine Rt.tM ?_ | refine Rt.tC ?_ | refine Rt.tN ?_ | refine Rt.tA ?_ | refine Rt.tG ?_ | refine Rt.tF ?_ | refine Rt.os ?_ | refine Rt.clS ?_ | refine Rt.jmN ?_ | refine Rt.jbN ?_ | refine Rt.jbE ?_)) | ((with_reducible (first | apply Rt.ld0 | apply Rt.ld1 | apply Rt.ld2 | apply Rt.ld3 | apply Rt.ld4 | apply Rt.ld5)); first | assumption | exact Lc.kp (by assumption) (by assumption)) | ((with_reducible apply Rt.ol); first | assumption | exact cell_kp (by assumption) (by assumption)) | ((with_reducible apply Rt.ckR); focus ((repeat (first | (with_reducible (first | refine Rt.fin ?_ | refine Rt.tL ?_ | refine Rt.tI ?_ | refine Rt.tB ?_ | refine Rt.tS ?_ | refine Rt.tP ?_ | refine Rt.tD ?_ | refine Rt.tM ?_ | refine Rt.tC ?_ | refine Rt.tN ?_ | refine Rt.tA ?_ | refine Rt.tG ?_ | refine Rt.tF ?_ | refine Rt.os ?_ | refine Rt.clS ?_ | refine Rt.jmN ?_ | refine Rt.jbN ?_ | refine Rt.jbE ?_)) | ((with_reducible (first | apply Rt.ld0 | apply Rt.ld1 | apply Rt.ld2 | apply Rt.ld3 | apply Rt.ld4 | apply Rt.ld5)); first | assumption | exact Lc.kp (by assumption) (by assumption)) | ((with_reducible apply Rt.ol); first | assumption | exact cell_kp (by assumption) (by assumption)))); exact Rt.some' rfl))))
    refine Rt.cB (fun hmk => ?_) fun hmk => ?_
    · refine passM hVd hi hx hlc fun w1 h1 g1 => ?_
      (repeat (first | (with_reducible (first | refine Rt.fin ?_ | refine Rt.tL ?_ | refine Rt.tI ?_ | refine Rt.tB ?_ | refine Rt.tS ?_ | refine Rt.tP ?_ | refine Rt.tD ?_ | refine Rt.tM ?_ | refine Rt.tC ?_ | refine Rt.tN ?_ | refine Rt.tA ?_ | refine Rt.tG ?_ | refine Rt.tF ?_ | refine Rt.os ?_ | refine Rt.clS ?_ | refine Rt.jmN ?_ | refine Rt.jbN ?_ | refine Rt.jbE ?_)) | ((with_reducible (first | apply Rt.ld0 | apply Rt.ld1 | apply Rt.ld2 | apply Rt.ld3 | apply Rt.ld4 | apply Rt.ld5)); first | assumption | exact Lc.kp (by assumption) (by assumption)) | ((with_reducible apply Rt.ol); first | assumption | exact cell_kp (by assumption) (by assumption)) | ((with_reducible apply Rt.ckR); focus ((repeat (first | (with_reducible (first | refine Rt.fin ?_ | refine Rt.tL ?_ | refine Rt.tI ?_ | refine Rt.tB ?_ | refine Rt.tS ?_ | refine Rt.tP ?_ | refine Rt.tD ?_ | refine Rt.tM ?_ | refine Rt.tC ?_ | refine Rt.tN ?_ | refine Rt.tA ?_ | refine Rt.tG ?_ | refine Rt.tF ?_ | refine Rt.os ?_ | refine Rt.clS ?_ | refine Rt.jmN ?_ | refine Rt.jbN ?_ | refine Rt.jbE ?_)) | ((with_reducible (first | apply Rt.ld0 | apply Rt.ld1 | apply Rt.ld2 | apply Rt.ld3 | apply Rt.ld4 | apply Rt.ld5)); first | assumption | exact Lc.kp (by assumption) (by assumption)) | ((with_reducible apply Rt.ol); first | assumption | exact cell_kp (by assumption) (by assumption)))); exact Rt.some' rfl))))
      exact hpass (.inr hmk) w1 h1 g1
    · (repeat (first | (with_reducible (first | refine Rt.fin ?_ | refine Rt.tL ?_ | refine Rt.tI ?_ | refine Rt.tB ?_ | refine Rt.tS ?_ | refine Rt.tP ?_ | refine Rt.tD ?_ | refine Rt.tM ?_ | refine Rt.tC ?_ | refine Rt.tN ?_ | refine Rt.tA ?_ | refine Rt.tG ?_ | refine Rt.tF ?_ | refine Rt.os ?_ | refine Rt.clS ?_ | refine Rt.jmN ?_ | refine Rt.jbN ?_ | refine Rt.jbE ?_)) | ((with_reducible (first | apply Rt.ld0 | apply Rt.ld1 | apply Rt.ld2 | apply Rt.ld3 | apply Rt.ld4 | apply Rt.ld5)); first | assumption | exact Lc.kp (by assumption) (by assumption)) | ((with_reducible apply Rt.ol); first | assumption | exact cell_kp (by assumption) (by assumption)) | ((with_reducible apply Rt.ckR); focus ((repeat (first | (with_reducible (first | refine Rt.fin ?_ | refine Rt.tL ?_ | refine Rt.tI ?_ | refine Rt.tB ?_ | refine Rt.tS ?_ | refine Rt.tP ?_ | refine Rt.tD ?_ | refine Rt.tM ?_ | refine Rt.tC ?_ | refine Rt.tN ?_ | refine Rt.tA ?_ | refine Rt.tG ?_ | refine Rt.tF ?_ | refine Rt.os ?_ | refine Rt.clS ?_ | refine Rt.jmN ?_ | refine Rt.jbN ?_ | refine Rt.jbE ?_)) | ((with_reducible (first | apply Rt.ld0 | apply Rt.ld1 | apply Rt.ld2 | apply Rt.ld3 | apply Rt.ld4 | apply Rt.ld5)); first | assumption | exact Lc.kp (by assumption) (by assumption)) | ((with_reducible apply Rt.ol); first | assumption | exact cell_kp (by assumption) (by assumption)))); exact Rt.some' rfl))))
      have hCd : Cs w.drew.drew base cb S s := hVd.cs hS'
      obtain ⟨_, e, w2, rfl, g2, h2⟩ := gone_spec (n := n) hCd ho hx
      refine Rt.cl e ?_
      refine Rt.tN ?_
      obtain ⟨R2, A2, c2, gs2, hV2, hS2⟩ := id h2
      have lc2 := hV2.lc
      have hgl2 := hV2.len
      (repeat (first | (with_reducible (first | refine Rt.fin ?_ | refine Rt.tL ?_ | refine Rt.tI ?_ | refine Rt.tB ?_ | refine Rt.tS ?_ | refine Rt.tP ?_ | refine Rt.tD ?_ | refine Rt.tM ?_ | refine Rt.tC ?_ | refine Rt.tN ?_ | refine Rt.tA ?_ | refine Rt.tG ?_ | refine Rt.tF ?_ | refine Rt.os ?_ | refine Rt.clS ?_ | refine Rt.jmN ?_ | refine Rt.jbN ?_ | refine Rt.jbE ?_)) | ((with_reducible (first | apply Rt.ld0 | apply Rt.ld1 | apply Rt.ld2 | apply Rt.ld3 | apply Rt.ld4 | apply Rt.ld5)); first | assumption | exact Lc.kp (by assumption) (by assumption)) | ((with_reducible apply Rt.ol); first | assumption | exact cell_kp (by assumption) (by assumption)) | ((with_reducible apply Rt.ckR); focus ((repeat (first | (with_reducible (first | refine Rt.fin ?_ | refine Rt.tL ?_ | refine Rt.tI ?_ | refine Rt.tB ?_ | refine Rt.tS ?_ | refine Rt.tP ?_ | refine Rt.tD ?_ | refine Rt.tM ?_ | refine Rt.tC ?_ | refine Rt.tN ?_ | refine Rt.tA ?_ | refine Rt.tG ?_ | refine Rt.tF ?_ | refine Rt.os ?_ | refine Rt.clS ?_ | refine Rt.jmN ?_ | refine Rt.jbN ?_ | refine Rt.jbE ?_)) | ((with_reducible (first | apply Rt.ld0 | apply Rt.ld1 | apply Rt.ld2 | apply Rt.ld3 | apply Rt.ld4 | apply Rt.ld5)); first | assumption | exact Lc.kp (by assumption) (by assumption)) | ((with_reducible apply Rt.ol); first | assumption | exact cell_kp (by assumption) (by assumption)))); exact Rt.some' rfl))))
      have hgl3 := gone_len hx
      have e : freeS n s k = freeF n (goneS s s.hand) k (2 * (goneS s s.hand).l.length) := free_gone hgt (by omega) hx (by rw [hmk]; rintro (h | h); exact hp h; cases h)
      rw [e]
      rw [i64_in _ (by omega), show (2 * (gs2.length : Int)) = ((2 * (goneS s s.hand).l.length : Nat) : Int) by omega]
      refine free_g0 hn n (goneS s s.hand) _ w2 h2 (ho.gone hx) (Nat.le_refl _) ?_ (hgdd.tr g2)
      have := fuel_gone (len := s.l.length) (left := 2 * s.l.length) hlen (by omega)
      rw [hgl3]; omega
theorem Put_spec (h : Cs w base cb S s) (ho : Ok N s) (hN : N < 2 ^ 20) (hB : Stb S (fun w => Bv .u8 w B m d bs) w) (hm : m ≤ 2 ^ 20) (hb : base ≤ w.heap.size) (hn : 2 ^ 60 < n) :
    Rt (clock_Cache_Put n [pt cb, .int .i64 f, .int .i64 p, .slice B m d] w) (RF S w [.bool (putS n s f p bs).2] fun S' w' => Cs w' base cb S' (putS n s f p bs).1) := by
  obtain ⟨t, z, hT⟩ := slP
  have hbl := hB.out.len
  rw [clock_Cache_Put_eq]
  obtain ⟨_, e, B1, m1, d1, w1, rfl, _, _, _, g1, h1⟩ := Get_spec (n := n) (f := f) (p := p) h ho hn
  refine Rt.fin (Rt.cl e ?_)
  (repeat (first | (with_reducible (first | refine Rt.fin ?_ | refine Rt.tL ?_ | refine Rt.tI ?_ | refine Rt.tB ?_ | refine Rt.tS ?_ | refine Rt.tP ?_ | refine Rt.tD ?_ | refine Rt.tM ?_ | refine Rt.tC ?_ | refine Rt.tN ?_ | refine Rt.tA ?_ | refine Rt.tG ?_ | refine Rt.tF ?_ | refine Rt.os ?_ | refine Rt.clS ?_ | refine Rt.jmN ?_ | refine Rt.jbN ?_ | refine Rt.jbE ?_)) | ((with_reducible (first | apply Rt.ld0 | apply Rt.ld1 | apply Rt.ld2 | apply Rt.ld3 | apply Rt.ld4 | apply Rt.ld5)); first | assumption | exact Lc.kp (by assumption) (by assumption)) | ((with_reducible apply Rt.ol); first | assumption | exact cell_kp (by assumption) (by assumption)) | ((with_reducible apply Rt.ckR); focus ((repeat (first | (with_reducible (first | refine Rt.fin ?_ | refine Rt.tL ?_ | refine Rt.tI ?_ | refine Rt.tB ?_ | refine Rt.tS ?_ | refine Rt.tP ?_ | refine Rt.tD ?_ | refine Rt.tM ?_ | refine Rt.tC ?_ | refine Rt.tN ?_ | refine Rt.tA ?_ | refine Rt.tG ?_ | refine Rt.tF ?_ | refine Rt.os ?_ | refine Rt.clS ?_ | refine Rt.jmN ?_ | refine Rt.jbN ?_ | refine Rt.jbE ?_)) | ((with_reducible (first | apply Rt.ld0 | apply Rt.ld1 | apply Rt.ld2 | apply Rt.ld3 | apply Rt.ld4 | apply Rt.ld5)); first | assumption | exact Lc.kp (by assumption) (by assumption)) | ((with_reducible apply Rt.ol); first | assumption | exact cell_kp (by assumption) (by assumption)))); exact Rt.some' rfl))))
  cases hg : getB s f p with
  | some x =>
    have ep : putS n s f p bs = (getS s f p, true) := by unfold putS; rw [hg]; rfl
    rw [ep]
    exact Rt.cT rfl (Rt.some' ⟨rfl, w1, S, rfl, g1, fun j hj => .inl hj, h1⟩)
  | none =>
    have eg : getS s f p = s := by
      unfold getS
      unfold getB at hg
      cases hf : findI s.l f p with
      | none => rfl
      | some i =>
        obtain ⟨x, hx, _⟩ := findI_some hf
        rw [hf] at hg
        simp [hx] at hg
    rw [eg] at h1
    refine Rt.cF rfl ?_
    obtain ⟨_, e, w2, rfl, g2, h2⟩ := free_spec (n := n) (k := (m : Int)) h1 ho hn
    refine Rt.cl e ?_
    (repeat (first | (with_reducible (first | refine Rt.fin ?_ | refine Rt.tL ?_ | refine Rt.tI ?_ | refine Rt.tB ?_ | refine Rt.tS ?_ | refine Rt.tP ?_ | refine Rt.tD ?_ | refine Rt.tM ?_ | refine Rt.tC ?_ | refine Rt.tN ?_ | refine Rt.tA ?_ | refine Rt.tG ?_ | refine Rt.tF ?_ | refine Rt.os ?_ | refine Rt.clS ?_ | refine Rt.jmN ?_ | refine Rt.jbN ?_ | refine Rt.jbE ?_)) | ((with_reducible (first | apply Rt.ld0 | apply Rt.ld1 | apply Rt.ld2 | apply Rt.ld3 | apply Rt.ld4 | apply Rt.ld5)); first | assumption | exact Lc.kp (by assumption) (by assumption)) | ((with_reducible apply Rt.ol); first | assumption | exact cell_kp (by assumption) (by assumption)) | ((with_reducible apply Rt.ckR); focus ((repeat (first | (with_reducible (first | refine Rt.fin ?_ | refine Rt.tL ?_ | refine Rt.tI ?_ | refine Rt.tB ?_ | refine Rt.tS ?_ | refine Rt.tP ?_ | refine Rt.tD ?_ | refine Rt.tM ?_ | refine Rt.tC ?_ | refine Rt.tN ?_ | refine Rt.tA ?_ | refine Rt.tG ?_ | refine Rt.tF ?_ | refine Rt.os ?_ | refine Rt.clS ?_ | refine Rt.jmN ?_ | refine Rt.jbN ?_ | refine Rt.jbE ?_)) | ((with_reducible (first | apply Rt.ld0 | apply Rt.ld1 | apply Rt.ld2 | apply Rt.ld3 | apply Rt.ld4 | apply Rt.ld5)); first | assumption | exact Lc.kp (by assumption) (by assumption)) | ((with_reducible apply Rt.ol); first | assumption | exact cell_kp (by assumption) (by assumption)))); exact Rt.some' rfl))))
    have hml : (m : Int) = (bs.length : Int) := by omega
    rw [hml] at h2 ⊢
    have g12 := g1.tr g2
    cases hf : (freeS n s bs.length).2 with
    | false =>
      have ep : putS n s f p bs = ((freeS n s bs.length).1, false) := by unfold putS; rw [hg, if_neg (by simp), if_neg (by rw [hf]; simp)]
      rw [ep]
      exact Rt.cT rfl (Rt.some' ⟨rfl, w2, S, rfl, g12, fun j hj => .inl hj, h2⟩)
    | true =>
      have ep : putS n s f p bs = ({ (freeS n s bs.length).1 with used := (freeS n s bs.length).1.used + bs.length, l := (freeS n s bs.length).1.l ++ [⟨f, p, bs, 1, true⟩] }, true) := by unfold putS; rw [hg, if_neg (by simp), if_pos hf]
      rw [ep]
      have hfo : Ok N (freeS n s bs.length).1 := freeF_ok _ _ _ ho
      generalize (freeS n s bs.length).1 = s1 at *
      have hr := hfo.rng
      refine Rt.cF rfl ?_
      have h2d := h2.kp (Kp.rfl' w2).dr
      obtain ⟨R, A, c, gs, hV, hS⟩ := id h2d
      have hS' : ∀ j, CaS cb R A c gs j → S j := fun j hj => (hS j hj).1
      have lc := hV.lc
      have hgl := hV.len
      have g12d : Gx S w w2.drew := g12.dr
      (repeat (first | (with_reducible (first | refine Rt.fin ?_ | refine Rt.tL ?_ | refine Rt.tI ?_ | refine Rt.tB ?_ | refine Rt.tS ?_ | refine Rt.tP ?_ | refine Rt.tD ?_ | refine Rt.tM ?_ | refine Rt.tC ?_ | refine Rt.tN ?_ | refine Rt.tA ?_ | refine Rt.tG ?_ | refine Rt.tF ?_ | refine Rt.os ?_ | refine Rt.clS ?_ | refine Rt.jmN ?_ | refine Rt.jbN ?_ | refine Rt.jbE ?_)) | ((with_reducible (first | apply Rt.ld0 | apply Rt.ld1 | apply Rt.ld2 | apply Rt.ld3 | apply Rt.ld4 | apply Rt.ld5)); first | assumption | exact Lc.kp (by assumption) (by assumption)) | ((with_reducible apply Rt.ol); first | assumption | exact cell_kp (by assumption) (by assumption)) | ((with_reducible apply Rt.ckR); focus ((repeat (first | (with_reducible (first | refine Rt.fin ?_ | refine Rt.tL ?_ | refine Rt.tI ?_ | refine Rt.tB ?_ | refine Rt.tS ?_ | refine Rt.tP ?_ | refine Rt.tD ?_ | refine Rt.tM ?_ | refine Rt.tC ?_ | refine Rt.tN ?_ | refine Rt.tA ?_ | refine Rt.tG ?_ | refine Rt.tF ?_ | refine Rt.os ?_ | refine Rt.clS ?_ | refine Rt.jmN ?_ | refine Rt.jbN ?_ | refine Rt.jbE ?_)) | ((with_reducible (first | apply Rt.ld0 | apply Rt.ld1 | apply Rt.ld2 | apply Rt.ld3 | apply Rt.ld4 | apply Rt.ld5)); first | assumption | exact Lc.kp (by assumption) (by assumption)) | ((with_reducible apply Rt.ol); first | assumption | exact cell_kp (by assumption) (by assumption)))); exact Rt.some' rfl))))
      refine Rt.cO (Clone_spec (hB w2.drew g12d) (by omega)) fun C dd w3 o3 k3 => ?_
      have lc3 := lc.kp k3
      (repeat (first | (with_reducible (first | refine Rt.fin ?_ | refine Rt.tL ?_ | refine Rt.tI ?_ | refine Rt.tB ?_ | refine Rt.tS ?_ | refine Rt.tP ?_ | refine Rt.tD ?_ | refine Rt.tM ?_ | refine Rt.tC ?_ | refine Rt.tN ?_ | refine Rt.tA ?_ | refine Rt.tG ?_ | refine Rt.tF ?_ | refine Rt.os ?_ | refine Rt.clS ?_ | refine Rt.jmN ?_ | refine Rt.jbN ?_ | refine Rt.jbE ?_)) | ((with_reducible (first | apply Rt.ld0 | apply Rt.ld1 | apply Rt.ld2 | apply Rt.ld3 | apply Rt.ld4 | apply Rt.ld5)); first | assumption | exact Lc.kp (by assumption) (by assumption)) | ((with_reducible apply Rt.ol); first | assumption | exact cell_kp (by assumption) (by assumption)) | ((with_reducible apply Rt.ckR); focus ((repeat (first | (with_reducible (first | refine Rt.fin ?_ | refine Rt.tL ?_ | refine Rt.tI ?_ | refine Rt.tB ?_ | refine Rt.tS ?_ | refine Rt.tP ?_ | refine Rt.tD ?_ | refine Rt.tM ?_ | refine Rt.tC ?_ | refine Rt.tN ?_ | refine Rt.tA ?_ | refine Rt.tG ?_ | refine Rt.tF ?_ | refine Rt.os ?_ | refine Rt.clS ?_ | refine Rt.jmN ?_ | refine Rt.jbN ?_ | refine Rt.jbE ?_)) | ((with_reducible (first | apply Rt.ld0 | apply Rt.ld1 | apply Rt.ld2 | apply Rt.ld3 | apply Rt.ld4 | apply Rt.ld5)); first | assumption | exact Lc.kp (by assumption) (by assumption)) | ((with_reducible apply Rt.ol); first | assumption | exact cell_kp (by assumption) (by assumption)))); exact Rt.some' rfl))))
      refine Rt.al fun w4 l4 k4 s4 => ?_
      have lc4 := lc3.kp k4
      (repeat (first | (with_reducible (first | refine Rt.fin ?_ | refine Rt.tL ?_ | refine Rt.tI ?_ | refine Rt.tB ?_ | refine Rt.tS ?_ | refine Rt.tP ?_ | refine Rt.tD ?_ | refine Rt.tM ?_ | refine Rt.tC ?_ | refine Rt.tN ?_ | refine Rt.tA ?_ | refine Rt.tG ?_ | refine Rt.tF ?_ | refine Rt.os ?_ | refine Rt.clS ?_ | refine Rt.jmN ?_ | refine Rt.jbN ?_ | refine Rt.jbE ?_)) | ((with_reducible (first | apply Rt.ld0 | apply Rt.ld1 | apply Rt.ld2 | apply Rt.ld3 | apply Rt.ld4 | apply Rt.ld5)); first | assumption | exact Lc.kp (by assumption) (by assumption)) | ((with_reducible apply Rt.ol); first | assumption | exact cell_kp (by assumption) (by assumption)) | ((with_reducible apply Rt.ckR); focus ((repeat (first | (with_reducible (first | refine Rt.fin ?_ | refine Rt.tL ?_ | refine Rt.tI ?_ | refine Rt.tB ?_ | refine Rt.tS ?_ | refine Rt.tP ?_ | refine Rt.tD ?_ | refine Rt.tM ?_ | refine Rt.tC ?_ | refine Rt.tN ?_ | refine Rt.tA ?_ | refine Rt.tG ?_ | refine Rt.tF ?_ | refine Rt.os ?_ | refine Rt.clS ?_ | refine Rt.jmN ?_ | refine Rt.jbN ?_ | refine Rt.jbE ?_)) | ((with_reducible (first | apply Rt.ld0 | apply Rt.ld1 | apply Rt.ld2 | apply Rt.ld3 | apply Rt.ld4 | apply Rt.ld5)); first | assumption | exact Lc.kp (by assumption) (by assumption)) | ((with_reducible apply Rt.ol); first | assumption | exact cell_kp (by assumption) (by assumption)))); exact Rt.some' rfl))))
      refine Rt.al fun w5 l5 k5 s5 => ?_
      have lc5 := lc4.kp k5
      (repeat (first | (with_reducible (first | refine Rt.fin ?_ | refine Rt.tL ?_ | refine Rt.tI ?_ | refine Rt.tB ?_ | refine Rt.tS ?_ | refine Rt.tP ?_ | refine Rt.tD ?_ | refine Rt.tM ?_ | refine Rt.tC ?_ | refine Rt.tN ?_ | refine Rt.tA ?_ | refine Rt.tG ?_ | refine Rt.tF ?_ | refine Rt.os ?_ | refine Rt.clS ?_ | refine Rt.jmN ?_ | refine Rt.jbN ?_ | refine Rt.jbE ?_)) | ((with_reducible (first | apply Rt.ld0 | apply Rt.ld1 | apply Rt.ld2 | apply Rt.ld3 | apply Rt.ld4 | apply Rt.ld5)); first | assumption | exact Lc.kp (by assumption) (by assumption)) | ((with_reducible apply Rt.ol); first | assumption | exact cell_kp (by assumption) (by assumption)) | ((with_reducible apply Rt.ckR); focus ((repeat (first | (with_reducible (first | refine Rt.fin ?_ | refine Rt.tL ?_ | refine Rt.tI ?_ | refine Rt.tB ?_ | refine Rt.tS ?_ | refine Rt.tP ?_ | refine Rt.tD ?_ | refine Rt.tM ?_ | refine Rt.tC ?_ | refine Rt.tN ?_ | refine Rt.tA ?_ | refine Rt.tG ?_ | refine Rt.tF ?_ | refine Rt.os ?_ | refine Rt.clS ?_ | refine Rt.jmN ?_ | refine Rt.jbN ?_ | refine Rt.jbE ?_)) | ((with_reducible (first | apply Rt.ld0 | apply Rt.ld1 | apply Rt.ld2 | apply Rt.ld3 | apply Rt.ld4 | apply Rt.ld5)); first | assumption | exact Lc.kp (by assumption) (by assumption)) | ((with_reducible apply Rt.ol); first | assumption | exact cell_kp (by assumption) (by assumption)))); exact Rt.some' rfl))))
      have k35 := (k3.tr k4).tr k5
      have z3 := k3.size
      have z4 := k4.size
      have z5 := k5.size
      have zd : w2.drew.heap.size = w2.heap.size := rfl
      have zw : w.heap.size ≤ w2.drew.heap.size := g12d.size
      have hrlt := hV.row.lt
      have rowk := hV.row.kp k35
      have hgpl : (gs.map pt).length = gs.length := List.length_map ..
      refine Rt.pushV hT rowk l5 rfl (by rw [hgpl]; omega) (by omega) fun A6 c6 w6 o6 f6 g6 => ?_
      rw [hgpl] at o6 f6 ⊢
      have lc6 := lc5.gx g6 hV.nrow
      (repeat (first | (with_reducible (first | refine Rt.fin ?_ | refine Rt.tL ?_ | refine Rt.tI ?_ | refine Rt.tB ?_ | refine Rt.tS ?_ | refine Rt.tP ?_ | refine Rt.tD ?_ | refine Rt.tM ?_ | refine Rt.tC ?_ | refine Rt.tN ?_ | refine Rt.tA ?_ | refine Rt.tG ?_ | refine Rt.tF ?_ | refine Rt.os ?_ | refine Rt.clS ?_ | refine Rt.jmN ?_ | refine Rt.jbN ?_ | refine Rt.jbE ?_)) | ((with_reducible (first | apply Rt.ld0 | apply Rt.ld1 | apply Rt.ld2 | apply Rt.ld3 | apply Rt.ld4 | apply Rt.ld5)); first | assumption | exact Lc.kp (by assumption) (by assumption)) | ((with_reducible apply Rt.ol); first | assumption | exact cell_kp (by assumption) (by assumption)) | ((with_reducible apply Rt.ckR); focus ((repeat (first | (with_reducible (first | refine Rt.fin ?_ | refine Rt.tL ?_ | refine Rt.tI ?_ | refine Rt.tB ?_ | refine Rt.tS ?_ | refine Rt.tP ?_ | refine Rt.tD ?_ | refine Rt.tM ?_ | refine Rt.tC ?_ | refine Rt.tN ?_ | refine Rt.tA ?_ | refine Rt.tG ?_ | refine Rt.tF ?_ | refine Rt.os ?_ | refine Rt.clS ?_ | refine Rt.jmN ?_ | refine Rt.jbN ?_ | refine Rt.jbE ?_)) | ((with_reducible (first | apply Rt.ld0 | apply Rt.ld1 | apply Rt.ld2 | apply Rt.ld3 | apply Rt.ld4 | apply Rt.ld5)); first | assumption | exact Lc.kp (by assumption) (by assumption)) | ((with_reducible apply Rt.ol); first | assumption | exact cell_kp (by assumption) (by assumption)))); exact Rt.some' rfl))))
      refine Rt.st2 lc6 fun w7 l7 g7 => ?_
      (repeat (first | (with_reducible (first | refine Rt.fin ?_ | refine Rt.tL ?_ | refine Rt.tI ?_ | refine Rt.tB ?_ | refine Rt.tS ?_ | refine Rt.tP ?_ | refine Rt.tD ?_ | refine Rt.tM ?_ | refine Rt.tC ?_ | refine Rt.tN ?_ | refine Rt.tA ?_ | refine Rt.tG ?_ | refine Rt.tF ?_ | refine Rt.os ?_ | refine Rt.clS ?_ | refine Rt.jmN ?_ | refine Rt.jbN ?_ | refine Rt.jbE ?_)) | ((with_reducible (first | apply Rt.ld0 | apply Rt.ld1 | apply Rt.ld2 | apply Rt.ld3 | apply Rt.ld4 | apply Rt.ld5)); first | assumption | exact Lc.kp (by assumption) (by assumption)) | ((with_reducible apply Rt.ol); first | assumption | exact cell_kp (by assumption) (by assumption)) | ((with_reducible apply Rt.ckR); focus ((repeat (first | (with_reducible (first | refine Rt.fin ?_ | refine Rt.tL ?_ | refine Rt.tI ?_ | refine Rt.tB ?_ | refine Rt.tS ?_ | refine Rt.tP ?_ | refine Rt.tD ?_ | refine Rt.tM ?_ | refine Rt.tC ?_ | refine Rt.tN ?_ | refine Rt.tA ?_ | refine Rt.tG ?_ | refine Rt.tF ?_ | refine Rt.os ?_ | refine Rt.clS ?_ | refine Rt.jmN ?_ | refine Rt.jbN ?_ | refine Rt.jbE ?_)) | ((with_reducible (first | apply Rt.ld0 | apply Rt.ld1 | apply Rt.ld2 | apply Rt.ld3 | apply Rt.ld4 | apply Rt.ld5)); first | assumption | exact Lc.kp (by assumption) (by assumption)) | ((with_reducible apply Rt.ol); first | assumption | exact cell_kp (by assumption) (by assumption)))); exact Rt.some' rfl))))
      rw [i64_in _ (by omega)]
      refine Rt.st1 l7 fun w8 l8 g8 => ?_
      have g68 : Gx (fun k => k = cb) w6 w8 := g7.tr g8
      have gAll : Gx (fun k => k = cb ∨ On (.slice A gs.length c) k) w2.drew w8 := (k35.gx.tr (g6.wide fun k _ e => .inr e)).tr (g68.wide fun k _ e => .inl e)
      have hlt6 := o6.lt
      have hcblt := lc.lt
      have ho3 := o3.lt
      have e3 : bs.length = m := hbl
      have hpush := hV.push (x := ⟨f, p, bs, 1, true⟩) (B := C) (d := dd) (g := w3.heap.size) (A' := A6) (c' := c6) (used := s1.used + (bs.length : Int)) gAll
        (o6.gx g68 fun j hj e => by subst e; rcases f6 _ hj with e | e; exact hV.nrow e; omega)
        (fun j hj => by
          rcases f6 j hj with e | e
          · exact .inl e
          · exact .inr ⟨by omega, by omega, fun hC => by have := (ho3 j hC).2; omega⟩)
        l8 (by omega) (fun hC => by have := (ho3 _ hC).2; omega)
        ((((l4.kp k5).gx g6 fun ho => by have := (hrlt _ ho).2; omega).gx g68 (by omega)))
        ((((o3.kp k4).kp k5).gx g6 fun j hj ho => by have := (hrlt _ ho).2; have := (ho3 j hj).1; omega).gx g68 (fun j hj e => by have := (ho3 j hj).1; omega) |>.mono (by omega))
        (hB w2.drew g12d).rng (fun j hj => (ho3 j hj).1)
      have hz8 : w2.drew.heap.size ≤ w8.heap.size := gAll.size
      have hgS8 : Gx S w w8 := g12d.tr (gAll.wide fun k _ e => by rcases e with e | e; rw [e]; exact hS' cb (.inl rfl); exact hS' k (.inr (.inl e)))
      refine Rt.some' ⟨rfl, w8, fun j => S j ∨ (w2.drew.heap.size ≤ j), rfl, hgS8, fun j hj => ?_, hpush.cs fun j hj => ?_⟩
      · rcases hj with hj | hj
        · exact .inl hj
        · exact .inr (by omega)
      · have hel : (gs ++ [w3.heap.size]).length = gs.length + 1 := by rw [List.length_append]; rfl
        rcases hj with hj | hj | hj | hj
        · exact .inl (hS' j (.inl hj))
        · rw [hel] at hj
          rcases f6 j hj with e | e
          · exact .inl (hS' j (.inr (.inl e)))
          · exact .inr (by omega)
        · rcases List.mem_append.1 hj with hj | hj
          · exact .inl (hS' j (.inr (.inr (.inl hj))))
          · simp at hj; exact .inr (by omega)
        · rcases hj with hj | hj
          · exact .inl (hS' j (.inr (.inr (.inr hj))))
          · exact .inr (ho3 j hj).1
theorem Drop_l0 (hn : 2 ^ 60 < n) : ∀ (q : Nat) (m : Nat) (s : Ca) (k : Int) (i : Nat) (w' : World), Cs w' base cb S s → Ok N s → i + q = s.l.length → q < m → Gx S w0 w' → 0 ≤ k ∧ k + q ≤ 2 ^ 30 →
    Rt (clock_Cache_Drop.l0 n m (some ⟨cb, 0, none⟩) f k (i : Int) w') fun r => ∃ w1, r = ⟨.exit 0, [.int .i64 (dropF m s f k i).2], w1⟩ ∧ Gx S w0 w1 ∧ Cs w1 base cb S (dropF m s f k i).1 := by
  intro q
  induction q with
  | zero =>
    intro m s k i w' h ho hi hm hg hk
    obtain ⟨m, rfl⟩ : ∃ m', m = m' + 1 := ⟨m - 1, by omega⟩
    rw [clock_Cache_Drop.l0_succ]
    obtain ⟨R, A, c, gs, hV, hS⟩ := id h
    have lc := hV.lc
    have hgl := hV.len
    (repeat (first | (with_reducible (first | refine Rt.fin ?_ | refine Rt.tL ?_ | refine Rt.tI ?_ | refine Rt.tB ?_ | refine Rt.tS ?_ | refine Rt.tP ?_ | refine Rt.tD ?_ | refine Rt.tM ?_ | refine Rt.tC ?_ | refine Rt.tN ?_ | refine Rt.tA ?_ | refine Rt.tG ?_ | refine Rt.tF ?_ | refine Rt.os ?_ | refine Rt.clS ?_ | refine Rt.jmN ?_ | refine Rt.jbN ?_ | refine Rt.jbE ?_)) | ((with_reducible (first | apply Rt.ld0 | apply Rt.ld1 | apply Rt.ld2 | apply Rt.ld3 | apply Rt.ld4 | apply Rt.ld5)); first | assumption | exact Lc.kp (by assumption) (by assumption)) | ((with_reducible apply Rt.ol); first | assumption | exact cell_kp (by assumption) (by assumption)) | ((with_reducible apply Rt.ckR); focus ((repeat (first | (with_reducible (first | refine Rt.fin ?_ | refine Rt.tL ?_ | refine Rt.tI ?_ | refine Rt.tB ?_ | refine Rt.tS ?_ | refine Rt.tP ?_ | refine Rt.tD ?_ | refine Rt.tM ?_ | refine Rt.tC ?_ | refine Rt.tN ?_ | refine Rt.tA ?_ | refine Rt.tG ?_ | refine Rt.tF ?_ | refine Rt.os ?_ | refine Rt.clS ?_ | refine Rt.jmN ?_ | refine Rt.jbN ?_ | refine Rt.jbE ?_)) | ((with_reducible (first | apply Rt.ld0 | apply Rt.ld1 | apply Rt.ld2 | apply Rt.ld3 | apply Rt.ld4 | apply Rt.ld5)); first | assumption | exact Lc.kp (by assumption) (by assumption)) | ((with_reducible apply Rt.ol); first | assumption | exact cell_kp (by assumption) (by assumption)))); exact Rt.some' rfl))))
    rw [drop_end (List.getElem?_eq_none (by omega))]
    exact Rt.cDF (by omega) (Rt.some' ⟨w', rfl, hg, h⟩)
  | succ q ih =>
    intro m s k i w' h ho hi hm hg hk
    obtain ⟨m, rfl⟩ : ∃ m', m = m' + 1 := ⟨m - 1, by omega⟩
    rw [clock_Cache_Drop.l0_succ]
    obtain ⟨R, A, c, gs, hV, hS⟩ := id h
    have lc := hV.lc
    have hgl := hV.len
    have hr := ho.rng
    have hxi : s.l[i]? = some (s.l[i]'(by omega)) := List.getElem?_eq_getElem _
    generalize (s.l[i]'(by omega)) = x at hxi
    have stay : ¬ (x.file = f ∧ x.pins = 0) → Rt (clock_Cache_Drop.l0 n m (some ⟨cb, 0, none⟩) f k (IntKind.i64.wrap ((i : Int) + 1)) w') fun r => ∃ w1, r = ⟨.exit 0, [.int .i64 (dropF (m + 1) s f k i).2], w1⟩ ∧ Gx S w0 w1 ∧ Cs w1 base cb S (dropF (m + 1) s f k i).1 := fun hne => by
      rw [drop_stay hxi hne, i64_in _ (by omega), show ((i : Int) + 1) = ((i + 1 : Nat) : Int) by omega]
      exact ih m s k (i + 1) w' h ho (by omega) (by omega) hg (by omega)
    (repeat (first | (with_reducible (first | refine Rt.fin ?_ | refine Rt.tL ?_ | refine Rt.tI ?_ | refine Rt.tB ?_ | refine Rt.tS ?_ | refine Rt.tP ?_ | refine Rt.tD ?_ | refine Rt.tM ?_ | refine Rt.tC ?_ | refine Rt.tN ?_ | refine Rt.tA ?_ | refine Rt.tG ?_ | refine Rt.tF ?_ | refine Rt.os ?_ | refine Rt.clS ?_ | refine Rt.jmN ?_ | refine Rt.jbN ?_ | refine Rt.jbE ?_)) | ((with_reducible (first | apply Rt.ld0 | apply Rt.ld1 | apply Rt.ld2 | apply Rt.ld3 | apply Rt.ld4 | apply Rt.ld5)); first | assumption | exact Lc.kp (by assumption) (by assumption)) | ((with_reducible apply Rt.ol); first | assumption | exact cell_kp (by assumption) (by assumption)) | ((with_reducible apply Rt.ckR); focus ((repeat (first | (with_reducible (first | refine Rt.fin ?_ | refine Rt.tL ?_ | refine Rt.tI ?_ | refine Rt.tB ?_ | refine Rt.tS ?_ | refine Rt.tP ?_ | refine Rt.tD ?_ | refine Rt.tM ?_ | refine Rt.tC ?_ | refine Rt.tN ?_ | refine Rt.tA ?_ | refine Rt.tG ?_ | refine Rt.tF ?_ | refine Rt.os ?_ | refine Rt.clS ?_ | refine Rt.jmN ?_ | refine Rt.jbN ?_ | refine Rt.jbE ?_)) | ((with_reducible (first | apply Rt.ld0 | apply Rt.ld1 | apply Rt.ld2 | apply Rt.ld3 | apply Rt.ld4 | apply Rt.ld5)); first | assumption | exact Lc.kp (by assumption) (by assumption)) | ((with_reducible apply Rt.ol); first | assumption | exact cell_kp (by assumption) (by assumption)))); exact Rt.some' rfl))))
    refine Rt.cDT (by omega) (Rt.jb (i := 1) (Rt.jmX ?_))
    (repeat (first | (with_reducible (first | refine Rt.fin ?_ | refine Rt.tL ?_ | refine Rt.tI ?_ | refine Rt.tB ?_ | refine Rt.tS ?_ | refine Rt.tP ?_ | refine Rt.tD ?_ | refine Rt.tM ?_ | refine Rt.tC ?_ | refine Rt.tN ?_ | refine Rt.tA ?_ | refine Rt.tG ?_ | refine Rt.tF ?_ | refine Rt.os ?_ | refine Rt.clS ?_ | refine Rt.jmN ?_ | refine Rt.jbN ?_ | refine Rt.jbE ?_)) | ((with_reducible (first | apply Rt.ld0 | apply Rt.ld1 | apply Rt.ld2 | apply Rt.ld3 | apply Rt.ld4 | apply Rt.ld5)); first | assumption | exact Lc.kp (by assumption) (by assumption)) | ((with_reducible apply Rt.ol); first | assumption | exact cell_kp (by assumption) (by assumption)) | ((with_reducible apply Rt.ckR); focus ((repeat (first | (with_reducible (first | refine Rt.fin ?_ | refine Rt.tL ?_ | refine Rt.tI ?_ | refine Rt.tB ?_ | refine Rt.tS ?_ | refine Rt.tP ?_ | refine Rt.tD ?_ | refine Rt.tM ?_ | refine Rt.tC ?_ | refine Rt.tN ?_ | refine Rt.tA ?_ | refine Rt.tG ?_ | refine Rt.tF ?_ | refine Rt.os ?_ | refine Rt.clS ?_ | refine Rt.jmN ?_ | refine Rt.jbN ?_ | refine Rt.jbE ?_)) | ((with_reducible (first | apply Rt.ld0 | apply Rt.ld1 | apply Rt.ld2 | apply Rt.ld3 | apply Rt.ld4 | apply Rt.ld5)); first | assumption | exact Lc.kp (by assumption) (by assumption)) | ((with_reducible apply Rt.ol); first | assumption | exact cell_kp (by assumption) (by assumption)))); exact Rt.some' rfl))))
    refine Rt.ixSl hV hxi fun a g B d hgi hd ha hlc hb => ?_
    (repeat (first | (with_reducible (first | refine Rt.fin ?_ | refine Rt.tL ?_ | refine Rt.tI ?_ | refine Rt.tB ?_ | refine Rt.tS ?_ | refine Rt.tP ?_ | refine Rt.tD ?_ | refine Rt.tM ?_ | refine Rt.tC ?_ | refine Rt.tN ?_ | refine Rt.tA ?_ | refine Rt.tG ?_ | refine Rt.tF ?_ | refine Rt.os ?_ | refine Rt.clS ?_ | refine Rt.jmN ?_ | refine Rt.jbN ?_ | refine Rt.jbE ?_)) | ((with_reducible (first | apply Rt.ld0 | apply Rt.ld1 | apply Rt.ld2 | apply Rt.ld3 | apply Rt.ld4 | apply Rt.ld5)); first | assumption | exact Lc.kp (by assumption) (by assumption)) | ((with_reducible apply Rt.ol); first | assumption | exact cell_kp (by assumption) (by assumption)) | ((with_reducible apply Rt.ckR); focus ((repeat (first | (with_reducible (first | refine Rt.fin ?_ | refine Rt.tL ?_ | refine Rt.tI ?_ | refine Rt.tB ?_ | refine Rt.tS ?_ | refine Rt.tP ?_ | refine Rt.tD ?_ | refine Rt.tM ?_ | refine Rt.tC ?_ | refine Rt.tN ?_ | refine Rt.tA ?_ | refine Rt.tG ?_ | refine Rt.tF ?_ | refine Rt.os ?_ | refine Rt.clS ?_ | refine Rt.jmN ?_ | refine Rt.jbN ?_ | refine Rt.jbE ?_)) | ((with_reducible (first | apply Rt.ld0 | apply Rt.ld1 | apply Rt.ld2 | apply Rt.ld3 | apply Rt.ld4 | apply Rt.ld5)); first | assumption | exact Lc.kp (by assumption) (by assumption)) | ((with_reducible apply Rt.ol); first | assumption | exact cell_kp (by assumption) (by assumption)))); exact Rt.some' rfl))))
    refine Rt.cQ (fun e1 => ?_) fun e1 => ?_
    · (repeat (first | (with_reducible (first | refine Rt.fin ?_ | refine Rt.tL ?_ | refine Rt.tI ?_ | refine Rt.tB ?_ | refine Rt.tS ?_ | refine Rt.tP ?_ | refine Rt.tD ?_ | refine Rt.tM ?_ | refine Rt.tC ?_ | refine Rt.tN ?_ | refine Rt.tA ?_ | refine Rt.tG ?_ | refine Rt.tF ?_ | refine Rt.os ?_ | refine Rt.clS ?_ | refine Rt.jmN ?_ | refine Rt.jbN ?_ | refine Rt.jbE ?_)) | ((with_reducible (first | apply Rt.ld0 | apply Rt.ld1 | apply Rt.ld2 | apply Rt.ld3 | apply Rt.ld4 | apply Rt.ld5)); first | assumption | exact Lc.kp (by assumption) (by assumption)) | ((with_reducible apply Rt.ol); first | assumption | exact cell_kp (by assumption) (by assumption)) | ((with_reducible apply Rt.ckR); focus ((repeat (first | (with_reducible (first | refine Rt.fin ?_ | refine Rt.tL ?_ | refine Rt.tI ?_ | refine Rt.tB ?_ | refine Rt.tS ?_ | refine Rt.tP ?_ | refine Rt.tD ?_ | refine Rt.tM ?_ | refine Rt.tC ?_ | refine Rt.tN ?_ | refine Rt.tA ?_ | refine Rt.tG ?_ | refine Rt.tF ?_ | refine Rt.os ?_ | refine Rt.clS ?_ | refine Rt.jmN ?_ | refine Rt.jbN ?_ | refine Rt.jbE ?_)) | ((with_reducible (first | apply Rt.ld0 | apply Rt.ld1 | apply Rt.ld2 | apply Rt.ld3 | apply Rt.ld4 | apply Rt.ld5)); first | assumption | exact Lc.kp (by assumption) (by assumption)) | ((with_reducible apply Rt.ol); first | assumption | exact cell_kp (by assumption) (by assumption)))); exact Rt.some' rfl))))
      refine Rt.ixSl hV hxi fun a2 g2 B2 d2 hgi2 hd2 ha2 hlc2 hb2 => ?_
      (repeat (first | (with_reducible (first | refine Rt.fin ?_ | refine Rt.tL ?_ | refine Rt.tI ?_ | refine Rt.tB ?_ | refine Rt.tS ?_ | refine Rt.tP ?_ | refine Rt.tD ?_ | refine Rt.tM ?_ | refine Rt.tC ?_ | refine Rt.tN ?_ | refine Rt.tA ?_ | refine Rt.tG ?_ | refine Rt.tF ?_ | refine Rt.os ?_ | refine Rt.clS ?_ | refine Rt.jmN ?_ | refine Rt.jbN ?_ | refine Rt.jbE ?_)) | ((with_reducible (first | apply Rt.ld0 | apply Rt.ld1 | apply Rt.ld2 | apply Rt.ld3 | apply Rt.ld4 | apply Rt.ld5)); first | assumption | exact Lc.kp (by assumption) (by assumption)) | ((with_reducible apply Rt.ol); first | assumption | exact cell_kp (by assumption) (by assumption)) | ((with_reducible apply Rt.ckR); focus ((repeat (first | (with_reducible (first | refine Rt.fin ?_ | refine Rt.tL ?_ | refine Rt.tI ?_ | refine Rt.tB ?_ | refine Rt.tS ?_ | refine Rt.tP ?_ | refine Rt.tD ?_ | refine Rt.tM ?_ | refine Rt.tC ?_ | refine Rt.tN ?_ | refine Rt.tA ?_ | refine Rt.tG ?_ | refine Rt.tF ?_ | refine Rt.os ?_ | refine Rt.clS ?_ | refine Rt.jmN ?_ | refine Rt.jbN ?_ | refine Rt.jbE ?_)) | ((with_reducible (first | apply Rt.ld0 | apply Rt.ld1 | apply Rt.ld2 | apply Rt.ld3 | apply Rt.ld4 | apply Rt.ld5)); first | assumption | exact Lc.kp (by assumption) (by assumption)) | ((with_reducible apply Rt.ol); first | assumption | exact cell_kp (by assumption) (by assumption)))); exact Rt.some' rfl))))
      refine Rt.cQ (fun e2 => ?_) fun e2 => ?_
      · obtain ⟨_, e, w2, rfl, gg, h2⟩ := gone_spec (n := n) h ho hxi
        refine Rt.cl e (Rt.tN (Rt.some' (.inr ⟨(by intro h; cases h), .inl ⟨.inr rfl, ?_⟩⟩)))
        (repeat (first | (with_reducible (first | refine Rt.fin ?_ | refine Rt.tL ?_ | refine Rt.tI ?_ | refine Rt.tB ?_ | refine Rt.tS ?_ | refine Rt.tP ?_ | refine Rt.tD ?_ | refine Rt.tM ?_ | refine Rt.tC ?_ | refine Rt.tN ?_ | refine Rt.tA ?_ | refine Rt.tG ?_ | refine Rt.tF ?_ | refine Rt.os ?_ | refine Rt.clS ?_ | refine Rt.jmN ?_ | refine Rt.jbN ?_ | refine Rt.jbE ?_)) | ((with_reducible (first | apply Rt.ld0 | apply Rt.ld1 | apply Rt.ld2 | apply Rt.ld3 | apply Rt.ld4 | apply Rt.ld5)); first | assumption | exact Lc.kp (by assumption) (by assumption)) | ((with_reducible apply Rt.ol); first | assumption | exact cell_kp (by assumption) (by assumption)) | ((with_reducible apply Rt.ckR); focus ((repeat (first | (with_reducible (first | refine Rt.fin ?_ | refine Rt.tL ?_ | refine Rt.tI ?_ | refine Rt.tB ?_ | refine Rt.tS ?_ | refine Rt.tP ?_ | refine Rt.tD ?_ | refine Rt.tM ?_ | refine Rt.tC ?_ | refine Rt.tN ?_ | refine Rt.tA ?_ | refine Rt.tG ?_ | refine Rt.tF ?_ | refine Rt.os ?_ | refine Rt.clS ?_ | refine Rt.jmN ?_ | refine Rt.jbN ?_ | refine Rt.jbE ?_)) | ((with_reducible (first | apply Rt.ld0 | apply Rt.ld1 | apply Rt.ld2 | apply Rt.ld3 | apply Rt.ld4 | apply Rt.ld5)); first | assumption | exact Lc.kp (by assumption) (by assumption)) | ((with_reducible apply Rt.ol); first | assumption | exact cell_kp (by assumption) (by assumption)))); exact Rt.some' rfl))))
        rw [i64_in _ (by omega), drop_gone hxi ⟨e1, e2⟩]
        have hgl3 := gone_len hxi
        exact ih m (goneS s i) (k + 1) i w2 h2 (ho.gone hxi) (by omega) (by omega) (hg.tr gg) (by omega)
      · refine Rt.some' (.inl ⟨rfl, ?_⟩)
        (repeat (first | (with_reducible (first | refine Rt.fin ?_ | refine Rt.tL ?_ | refine Rt.tI ?_ | refine Rt.tB ?_ | refine Rt.tS ?_ | refine Rt.tP ?_ | refine Rt.tD ?_ | refine Rt.tM ?_ | refine Rt.tC ?_ | refine Rt.tN ?_ | refine Rt.tA ?_ | refine Rt.tG ?_ | refine Rt.tF ?_ | refine Rt.os ?_ | refine Rt.clS ?_ | refine Rt.jmN ?_ | refine Rt.jbN ?_ | refine Rt.jbE ?_)) | ((with_reducible (first | apply Rt.ld0 | apply Rt.ld1 | apply Rt.ld2 | apply Rt.ld3 | apply Rt.ld4 | apply Rt.ld5)); first | assumption | exact Lc.kp (by assumption) (by assumption)) | ((with_reducible apply Rt.ol); first | assumption | exact cell_kp (by assumption) (by assumption)) | ((with_reducible apply Rt.ckR); focus ((repeat (first | (with_reducible (first | refine Rt.fin ?_ | refine Rt.tL ?_ | refine Rt.tI ?_ | refine Rt.tB ?_ | refine Rt.tS ?_ | refine Rt.tP ?_ | refine Rt.tD ?_ | refine Rt.tM ?_ | refine Rt.tC ?_ | refine Rt.tN ?_ | refine Rt.tA ?_ | refine Rt.tG ?_ | refine Rt.tF ?_ | refine Rt.os ?_ | refine Rt.clS ?_ | refine Rt.jmN ?_ | refine Rt.jbN ?_ | refine Rt.jbE ?_)) | ((with_reducible (first | apply Rt.ld0 | apply Rt.ld1 | apply Rt.ld2 | apply Rt.ld3 | apply Rt.ld4 | apply Rt.ld5)); first | assumption | exact Lc.kp (by assumption) (by assumption)) | ((with_reducible apply Rt.ol); first | assumption | exact cell_kp (by assumption) (by assumption)))); exact Rt.some' rfl))))
        refine Rt.some' (.inl ⟨.inl rfl, ?_⟩)
        (repeat (first | (with_reducible (first | refine Rt.fin ?_ | refine Rt.tL ?_ | refine Rt.tI ?_ | refine Rt.tB ?_ | refine Rt.tS ?_ | refine Rt.tP ?_ | refine Rt.tD ?_ | refine Rt.tM ?_ | refine Rt.tC ?_ | refine Rt.tN ?_ | refine Rt.tA ?_ | refine Rt.tG ?_ | refine Rt.tF ?_ | refine Rt.os ?_ | refine Rt.clS ?_ | refine Rt.jmN ?_ | refine Rt.jbN ?_ | refine Rt.jbE ?_)) | ((with_reducible (first | apply Rt.ld0 | apply Rt.ld1 | apply Rt.ld2 | apply Rt.ld3 | apply Rt.ld4 | apply Rt.ld5)); first | assumption | exact Lc.kp (by assumption) (by assumption)) | ((with_reducible apply Rt.ol); first | assumption | exact cell_kp (by assumption) (by assumption)) | ((with_reducible apply Rt.ckR); focus ((repeat (first | (with_reducible (first | refine Rt.fin ?_ | refine Rt.tL ?_ | refine Rt.tI ?_ | refine Rt.tB ?_ | refine Rt.tS ?_ | refine Rt.tP ?_ | refine Rt.tD ?_ | refine Rt.tM ?_ | refine Rt.tC ?_ | refine Rt.tN ?_ | refine Rt.tA ?_ | refine Rt.tG ?_ | refine Rt.tF ?_ | refine Rt.os ?_ | refine Rt.clS ?_ | refine Rt.jmN ?_ | refine Rt.jbN ?_ | refine Rt.jbE ?_)) | ((with_reducible (first | apply Rt.ld0 | apply Rt.ld1 | apply Rt.ld2 | apply Rt.ld3 | apply Rt.ld4 | apply Rt.ld5)); first | assumption | exact Lc.kp (by assumption) (by assumption)) | ((with_reducible apply Rt.ol); first | assumption | exact cell_kp (by assumption) (by assumption)))); exact Rt.some' rfl))))
        exact stay fun h => e2 h.2
    · refine Rt.some' (.inl ⟨rfl, ?_⟩)
      (repeat (first | (with_reducible (first | refine Rt.fin ?_ | refine Rt.tL ?_ | refine Rt.tI ?_ | refine Rt.tB ?_ | refine Rt.tS ?_ | refine Rt.tP ?_ | refine Rt.tD ?_ | refine Rt.tM ?_ | refine Rt.tC ?_ | refine Rt.tN ?_ | refine Rt.tA ?_ | refine Rt.tG ?_ | refine Rt.tF ?_ | refine Rt.os ?_ | refine Rt.clS ?_ | refine Rt.jmN ?_ | refine Rt.jbN ?_ | refine Rt.jbE ?_)) | ((with_reducible (first | apply Rt.ld0 | apply Rt.ld1 | apply Rt.ld2 | apply Rt.ld3 | apply Rt.ld4 | apply Rt.ld5)); first | assumption | exact Lc.kp (by assumption) (by assumption)) | ((with_reducible apply Rt.ol); first | assumption | exact cell_kp (by assumption) (by assumption)) | ((with_reducible apply Rt.ckR); focus ((repeat (first | (with_reducible (first | refine Rt.fin ?_ | refine Rt.tL ?_ | refine Rt.tI ?_ | refine Rt.tB ?_ | refine Rt.tS ?_ | refine Rt.tP ?_ | refine Rt.tD ?_ | refine Rt.tM ?_ | refine Rt.tC ?_ | refine Rt.tN ?_ | refine Rt.tA ?_ | refine Rt.tG ?_ | refine Rt.tF ?_ | refine Rt.os ?_ | refine Rt.clS ?_ | refine Rt.jmN ?_ | refine Rt.jbN ?_ | refine Rt.jbE ?_)) | ((with_reducible (first | apply Rt.ld0 | apply Rt.ld1 | apply Rt.ld2 | apply Rt.ld3 | apply Rt.ld4 | apply Rt.ld5)); first | assumption | exact Lc.kp (by assumption) (by assumption)) | ((with_reducible apply Rt.ol); first | assumption | exact cell_kp (by assumption) (by assumption)))); exact Rt.some' rfl))))
      refine Rt.some' (.inl ⟨.inl rfl, ?_⟩)
      (repeat (first | (with_reducible (first | refine Rt.fin ?_ | refine Rt.tL ?_ | refine Rt.tI ?_ | refine Rt.tB ?_ | refine Rt.tS ?_ | refine Rt.tP ?_ | refine Rt.tD ?_ | refine Rt.tM ?_ | refine Rt.tC ?_ | refine Rt.tN ?_ | refine Rt.tA ?_ | refine Rt.tG ?_ | refine Rt.tF ?_ | refine Rt.os ?_ | refine Rt.clS ?_ | refine Rt.jmN ?_ | refine Rt.jbN ?_ | refine Rt.jbE ?_)) | ((with_reducible (first | apply Rt.ld0 | apply Rt.ld1 | apply Rt.ld2 | apply Rt.ld3 | apply Rt.ld4 | apply Rt.ld5)); first | assumption | exact Lc.kp (by assumption) (by assumption)) | ((with_reducible apply Rt.ol); first | assumption | exact cell_kp (by assumption) (by assumption)) | ((with_reducible apply Rt.ckR); focus ((repeat (first | (with_reducible (first | refine Rt.fin ?_ | refine Rt.tL ?_ | refine Rt.tI ?_ | refine Rt.tB ?_ | refine Rt.tS ?_ | refine Rt.tP ?_ | refine Rt.tD ?_ | refine Rt.tM ?_ | refine Rt.tC ?_ | refine Rt.tN ?_ | refine Rt.tA ?_ | refine Rt.tG ?_ | refine Rt.tF ?_ | refine Rt.os ?_ | refine Rt.clS ?_ | refine Rt.jmN ?_ | refine Rt.jbN ?_ | refine Rt.jbE ?_)) | ((with_reducible (first | apply Rt.ld0 | apply Rt.ld1 | apply Rt.ld2 | apply Rt.ld3 | apply Rt.ld4 | apply Rt.ld5)); first | assumption | exact Lc.kp (by assumption) (by assumption)) | ((with_reducible apply Rt.ol); first | assumption | exact cell_kp (by assumption) (by assumption)))); exact Rt.some' rfl))))
      exact stay fun h => e1 h.1
def dropS (n : Nat) (s : Ca) (f : Int) : Ca × Int := dropF n s f 0 0
theorem Drop_spec (h : Cs w base cb S s) (ho : Ok N s) (hn : 2 ^ 60 < n) : Rt (clock_Cache_Drop n [pt cb, .int .i64 f] w) fun r => ∃ w1, r = ([.int .i64 (dropS n s f).2], w1) ∧ Gx S w w1 ∧ Cs w1 base cb S (dropS n s f).1 := by
  have hr := ho.rng
  rw [clock_Cache_Drop_eq]
  refine Rt.fin (Rt.jb (Rt.mono (Drop_l0 (f := f) hn s.l.length n s 0 0 w h ho (by omega) (by omega) (Gx.rfl' _ _) (by omega)) ?_))
  rintro r ⟨w1, rfl, g1, h1⟩
  refine .inl ⟨.inr rfl, ?_⟩
  (repeat (first | (with_reducible (first | refine Rt.fin ?_ | refine Rt.tL ?_ | refine Rt.tI ?_ | refine Rt.tB ?_ | refine Rt.tS ?_ | refine Rt.tP ?_ | refine Rt.tD ?_ | refine Rt.tM ?_ | refine Rt.tC ?_ | refine Rt.tN ?_ | refine Rt.tA ?_ | refine Rt.tG ?_ | refine Rt.tF ?_ | refine Rt.os ?_ | refine Rt.clS ?_ | refine Rt.jmN ?_ | refine Rt.jbN ?_ | refine Rt.jbE ?_)) | ((with_reducible (first | apply Rt.ld0 | apply Rt.ld1 | apply Rt.ld2 | apply Rt.ld3 | apply Rt.ld4 | apply Rt.ld5)); first | assumption | exact Lc.kp (by assumption) (by assumption)) | ((with_reducible apply Rt.ol); first | assumption | exact cell_kp (by assumption) (by assumption)) | ((with_reducible apply Rt.ckR); focus ((repeat (first | (with_reducible (first | refine Rt.fin ?_ | refine Rt.tL ?_ | refine Rt.tI ?_ | refine Rt.tB ?_ | refine Rt.tS ?_ | refine Rt.tP ?_ | refine Rt.tD ?_ | refine Rt.tM ?_ | refine Rt.tC ?_ | refine Rt.tN ?_ | refine Rt.tA ?_ | refine Rt.tG ?_ | refine Rt.tF ?_ | refine Rt.os ?_ | refine Rt.clS ?_ | refine Rt.jmN ?_ | refine Rt.jbN ?_ | refine Rt.jbE ?_)) | ((with_reducible (first | apply Rt.ld0 | apply Rt.ld1 | apply Rt.ld2 | apply Rt.ld3 | apply Rt.ld4 | apply Rt.ld5)); first | assumption | exact Lc.kp (by assumption) (by assumption)) | ((with_reducible apply Rt.ol); first | assumption | exact cell_kp (by assumption) (by assumption)))); exact Rt.some' rfl))))
  exact Rt.some' ⟨rfl, w1, rfl, g1, h1⟩
theorem New_spec {r : Int} (hb : base ≤ w.heap.size) : Rt (clock_New n [.int .i64 r] w) fun x => ∃ w', x = ([pt w.heap.size], w') ∧ Kp w w' ∧ Cs w' base w.heap.size (fun j => j = w.heap.size) ⟨if 0 < r then r else 0, 0, [], 0⟩ ∧ w.heap.size < w'.heap.size := by
  rw [clock_New_eq]
  refine Rt.fin (Rt.al fun w1 l1 k1 s1 => Rt.some' ⟨rfl, w1, rfl, k1, ?_, s1⟩)
  have hV : CaV w1 base w.heap.size (fun _ => False) none 0 [] ⟨if 0 < r then r else 0, 0, [], 0⟩ := ⟨hb, l1, OwnV.nil _ _, rfl, (fun h => by cases h), (fun i g x h => by cases h), List.nodup_nil, (fun j h => h.elim), (fun h => h), fun j h => h.elim⟩
  refine hV.cs fun j hj => ?_
  rcases hj with hj | hj | hj | hj
  · exact hj
  · cases hj
  · cases hj
  · exact hj.elim
end
end Go.Proofs.Ytdnbpgakmbamoaa.Ck
