/- A cache: how room is made. -/
import Derived.Test.YtdnbpgakmbamoaaK1
namespace Go.Proofs.Ytdnbpgakmbamoaa.Ck
open Go Big Go.RowKit Go.IntWalk
set_option linter.unusedVariables false
set_option linter.unusedSimpArgs false
theorem sum_set {g : Slo → Int} {x x' : Slo} : ∀ {l : List Slo} {i : Nat}, l[i]? = some x → ((l.set i x').map g).sum = (l.map g).sum - g x + g x'
  | [], i, h => by simp at h
  | y :: l, 0, h => by
    simp at h; subst h
    simp only [List.set_cons_zero, List.map_cons, List.sum_cons]; omega
  | y :: l, i + 1, h => by
    have ih := sum_set (g := g) (x' := x') (l := l) (i := i) (by simpa using h)
    simp only [List.set_cons_succ, List.map_cons, List.sum_cons, ih]; omega
theorem sum_erase {g : Slo → Int} {x : Slo} : ∀ {l : List Slo} {i : Nat}, l[i]? = some x → ((l.eraseIdx i).map g).sum = (l.map g).sum - g x
  | [], i, h => by simp at h
  | y :: l, 0, h => by
    simp at h; subst h
    simp only [List.eraseIdx_cons_zero, List.map_cons, List.sum_cons]; omega
  | y :: l, i + 1, h => by
    have ih := sum_erase (g := g) (l := l) (i := i) (by simpa using h)
    simp only [List.eraseIdx_cons_succ, List.map_cons, List.sum_cons, ih]; omega
/-- The hand goes by. -/
def passS (s : Ca) (x : Slo) : Ca := roundS { s with l := s.l.set s.hand { x with mark := x.mark && decide (0 < x.pins) }, hand := s.hand + 1 }
def freeF : Nat → Ca → Int → Nat → Ca × Bool
  | 0, s, _, _ => (s, false)
  | k + 1, s, n, left => if n ≤ s.room - s.used then (s, true) else if left = 0 then (s, false) else
    match s.l[s.hand]? with
    | none => (s, false)
    | some x => if 0 < x.pins ∨ x.mark = true then freeF k (passS s x) n (left - 1) else freeF k (goneS s s.hand) n (2 * (goneS s s.hand).l.length)
theorem free_yes {k : Nat} {s : Ca} {n : Int} {left : Nat} (h : n ≤ s.room - s.used) : freeF (k + 1) s n left = (s, true) := if_pos h
theorem free_no {k : Nat} {s : Ca} {n : Int} {left : Nat} (h : ¬ n ≤ s.room - s.used) (h0 : left = 0) : freeF (k + 1) s n left = (s, false) := by
  show (if n ≤ s.room - s.used then (s, true) else if left = 0 then (s, false) else _) = _
  rw [if_neg h, if_pos h0]
theorem free_pass {k : Nat} {s : Ca} {n : Int} {left : Nat} {x : Slo} (h : ¬ n ≤ s.room - s.used) (h0 : left ≠ 0) (hx : s.l[s.hand]? = some x) (hp : 0 < x.pins ∨ x.mark = true) : freeF (k + 1) s n left = freeF k (passS s x) n (left - 1) := by
  show (if n ≤ s.room - s.used then (s, true) else if left = 0 then (s, false) else match s.l[s.hand]? with
    | none => (s, false)
    | some x => if 0 < x.pins ∨ x.mark = true then freeF k (passS s x) n (left - 1) else freeF k (goneS s s.hand) n (2 * (goneS s s.hand).l.length)) = _
  rw [if_neg h, if_neg h0, hx]
  show (if 0 < x.pins ∨ x.mark = true then _ else _) = _
  rw [if_pos hp]
theorem free_gone {k : Nat} {s : Ca} {n : Int} {left : Nat} {x : Slo} (h : ¬ n ≤ s.room - s.used) (h0 : left ≠ 0) (hx : s.l[s.hand]? = some x) (hp : ¬ (0 < x.pins ∨ x.mark = true)) : freeF (k + 1) s n left = freeF k (goneS s s.hand) n (2 * (goneS s s.hand).l.length) := by
  show (if n ≤ s.room - s.used then (s, true) else if left = 0 then (s, false) else match s.l[s.hand]? with
    | none => (s, false)
    | some x => if 0 < x.pins ∨ x.mark = true then freeF k (passS s x) n (left - 1) else freeF k (goneS s s.hand) n (2 * (goneS s s.hand).l.length)) = _
  rw [if_neg h, if_neg h0, hx]
  show (if 0 < x.pins ∨ x.mark = true then _ else _) = _
  rw [if_neg hp]
theorem round_l (s : Ca) : (roundS s).l = s.l ∧ (roundS s).room = s.room ∧ (roundS s).used = s.used := by
  unfold roundS; split <;> exact ⟨rfl, rfl, rfl⟩
theorem round_hand (s : Ca) : (roundS s).hand < (roundS s).l.length ∨ (roundS s).hand = 0 := by
  unfold roundS
  by_cases h : s.hand ≥ s.l.length
  · rw [if_pos h]; exact .inr rfl
  · rw [if_neg h]; exact .inl (by omega)
theorem Ok.round {N : Nat} {s : Ca} (room : 0 ≤ s.room ∧ s.room < 2 ^ 63) (used : s.used = tot s.l) (slot : ∀ x ∈ s.l, 0 ≤ x.pins ∧ x.pins ≤ N ∧ x.b.length ≤ 2 ^ 20) (len : s.l.length ≤ N) (big : N ≤ 2 ^ 20) : Ok N (roundS s) := by
  obtain ⟨h1, h2, h3⟩ := round_l s
  exact ⟨by rw [h2]; exact room, by rw [h3, h1]; exact used, by rw [h1]; exact slot, by rw [h1]; exact len, big, round_hand s⟩
theorem mem_set {l : List Slo} {i : Nat} {x' y : Slo} (h : y ∈ l.set i x') : y ∈ l ∨ y = x' := (List.mem_or_eq_of_mem_set h)
theorem Ok.pass {N : Nat} {s : Ca} {x : Slo} (h : Ok N s) (hx : s.l[s.hand]? = some x) : Ok N (passS s x) := by
  refine Ok.round h.room ?_ (fun y hy => ?_) ?_ h.big
  · show s.used = tot (s.l.set s.hand _)
    unfold tot
    rw [sum_set hx, h.used]
    unfold tot
    simp only; omega
  · rcases mem_set hy with hy | rfl
    · exact h.slot y hy
    · exact h.slot x (List.mem_of_getElem? hx)
  · show (s.l.set s.hand _).length ≤ N
    rw [List.length_set]; exact h.len
theorem gone_eq {s : Ca} {i : Nat} {x : Slo} (hx : s.l[i]? = some x) : goneS s i = roundS { s with used := s.used - x.b.length, l := s.l.eraseIdx i, hand := if s.hand > i then s.hand - 1 else s.hand } := by unfold goneS; rw [hx]
theorem Ok.gone {N : Nat} {s : Ca} {x : Slo} {i : Nat} (h : Ok N s) (hx : s.l[i]? = some x) : Ok N (goneS s i) := by
  rw [gone_eq hx]
  refine Ok.round h.room ?_ (fun y hy => h.slot y ((List.eraseIdx_sublist ..).subset hy)) (Nat.le_trans (List.eraseIdx_sublist ..).length_le h.len) h.big
  show s.used - x.b.length = tot (s.l.eraseIdx i)
  unfold tot
  rw [sum_erase hx, h.used]; rfl
theorem gone_len {s : Ca} {x : Slo} {i : Nat} (hx : s.l[i]? = some x) : (goneS s i).l.length = s.l.length - 1 := by
  rw [gone_eq hx, (round_l _).1]
  show (s.l.eraseIdx i).length = _
  rw [List.length_eraseIdx, if_pos (List.getElem?_eq_some_iff.1 hx).1]
theorem pass_len {s : Ca} {x : Slo} : (passS s x).l.length = s.l.length := by
  unfold passS
  rw [(round_l _).1]
  show (s.l.set s.hand _).length = _
  rw [List.length_set]
/-- How many rounds there may be. -/
def fuelM (len left : Nat) : Nat := left + len * (2 * len + 1)
theorem fuel_gone {len left : Nat} (h : 0 < len) (h0 : left ≠ 0) : fuelM (len - 1) (2 * (len - 1)) < fuelM len left := by
  obtain ⟨q, rfl⟩ : ∃ q, len = q + 1 := ⟨len - 1, by omega⟩
  unfold fuelM
  rw [Nat.add_sub_cancel, Nat.add_mul, Nat.one_mul]
  have : q * (2 * (q + 1) + 1) = q * (2 * q + 1) + 2 * q := by
    rw [show 2 * (q + 1) + 1 = (2 * q + 1) + 2 by omega, Nat.mul_add]; omega
  omega
section
variable {α : Type} {Q : α → Prop} {n base cb N : Nat} {w w' w0 : World} {S T R : Nat → Prop} {s s' : Ca} {A : Option Addr} {c : Nat} {gs : List Nat} {f p k : Int}
theorem passM (h : CaV w base cb R A c gs s) {i g : Nat} {x : Slo} (hi : gs[i]? = some g) (hx : s.l[i]? = some x) {B : Option Addr} {d : Nat} (lg : Lc w g [.int .i64 x.file, .int .i64 x.pos, .slice B x.b.length d, .int .i64 x.pins, .bool x.mark]) {V : List Value} {F : List Value → World → Option Res} {Q : Res → Prop}
    (hf : ∀ w1, CaV w1 base cb R A c gs { s with l := s.l.set i { x with mark := x.mark && decide (0 < x.pins) } } → Gx (fun k => k = g) w w1 → Rt (F V w1) Q) :
    Rt (jm (opt (some (⟨g, 0, none⟩ : Addr)) fun ad74 => opt (w.cell? (Addr.add ad74 4)) fun v75 => tB v75 fun b76 => cond b76 (opt (some (⟨g, 0, none⟩ : Addr)) fun ad77 => opt (w.cell? (Addr.add ad77 3)) fun v78 => tI .i64 v78 fun n79 => opt (some (⟨g, 0, none⟩ : Addr)) fun ad80 => stC w (Addr.add ad80 4) (.bool (decide (n79 > 0))) fun w81 => some (⟨.norm, V, w81⟩ : Res)) (opt (some (⟨g, 0, none⟩ : Addr)) fun ad82 => stC w (Addr.add ad82 4) (.bool false) fun w83 => some ⟨.norm, V, w83⟩)) F) Q := by
  have hsl : ∀ {w1 : World} {mk : Bool}, mk = (x.mark && decide (0 < x.pins)) → Lc w1 g [.int .i64 x.file, .int .i64 x.pos, .slice B x.b.length d, .int .i64 x.pins, .bool mk] → Gx (fun k => k = g) w w1 → CaV w1 base cb R A c gs { s with l := s.l.set i { x with mark := x.mark && decide (0 < x.pins) } } := fun {w1 mk} em l1 g1 => by
    subst em
    refine h.slot (x' := { x with mark := x.mark && decide (0 < x.pins) }) hi hx g1 (fun B' d' hl' => ?_) rfl
    have h1 := hl'.ld 2
    have h2 := lg.ld 2
    rw [h1] at h2
    simp only [List.getElem?_cons_succ, List.getElem?_cons_zero, Option.some.injEq, Value.slice.injEq] at h2
    obtain ⟨rfl, _, rfl⟩ := h2
    exact l1
  refine Rt.jm ?_
  (repeat (first | (with_reducible (first | refine Rt.fin ?_ | refine Rt.tL ?_ | refine Rt.tI ?_ | refine Rt.tB ?_ | refine Rt.tS ?_ | refine Rt.tP ?_ | refine Rt.tD ?_ | refine Rt.tM ?_ | refine Rt.tC ?_ | refine Rt.tN ?_ | refine Rt.tA ?_ | refine Rt.tG ?_ | refine Rt.tF ?_ | refine Rt.os ?_ | refine Rt.clS ?_ | refine Rt.jmN ?_ | refine Rt.jbN ?_ | refine Rt.jbE ?_)) | ((with_reducible (first | apply Rt.ld0 | apply Rt.ld1 | apply Rt.ld2 | apply Rt.ld3 | apply Rt.ld4 | apply Rt.ld5)); first | assumption | exact Lc.kp (by assumption) (by assumption)) | ((with_reducible apply Rt.ol); first | assumption | exact cell_kp (by assumption) (by assumption)) | ((with_reducible apply Rt.ckR); focus ((repeat (first | (with_reducible (first | refine Rt.fin ?_ | refine Rt.tL ?_ | refine Rt.tI ?_ | refine Rt.tB ?_ | refine Rt.tS ?_ | refine Rt.tP ?_ | refine Rt.tD ?_ | refine Rt.tM ?_ | refine Rt.tC ?_ | refine Rt.tN ?_ | refine Rt.tA ?_ | refine Rt.tG ?_ | refine Rt.tF ?_ | refine Rt.os ?_ | refine Rt.clS ?_ | refine Rt.jmN ?_ | refine Rt.jbN ?_ | refine Rt.jbE ?_)) | ((with_reducible (first | apply Rt.ld0 | apply Rt.ld1 | apply Rt.ld2 | apply Rt.ld3 | apply Rt.ld4 | apply Rt.ld5)); first | assumption | exact Lc.kp (by assumption) (by assumption)) | ((with_reducible apply Rt.ol); first | assumption | exact cell_kp (by assumption) (by assumption)))); exact Rt.some' rfl))))
  refine Rt.cB (fun hm => ?_) fun hm => ?_
  · (repeat (first | (with_reducible (first | refine Rt.fin ?_ | refine Rt.tL ?_ | refine Rt.tI ?_ | refine Rt.tB ?_ | refine Rt.tS ?_ | refine Rt.tP ?_ | refine Rt.tD ?_ | refine Rt.tM ?_ | refine Rt.tC ?_ | refine Rt.tN ?_ | refine Rt.tA ?_ | refine Rt.tG ?_ | refine Rt.tF ?_ | refine Rt.os ?_ | refine Rt.clS ?_ | refine Rt.jmN ?_ | refine Rt.jbN ?_ | refine Rt.jbE ?_)) | ((with_reducible (first | apply Rt.ld0 | apply Rt.ld1 | apply Rt.ld2 | apply Rt.ld3 | apply Rt.ld4 | apply Rt.ld5)); first | assumption | exact Lc.kp (by assumption) (by assumption)) | ((with_reducible apply Rt.ol); first | assumption | exact cell_kp (by assumption) (by assumption)) | ((with_reducible apply Rt.ckR); focus ((repeat (first | (with_reducible (first | refine Rt.fin ?_ | refine Rt.tL ?_ | refine Rt.tI ?_ | refine Rt.tB ?_ | refine Rt.tS ?_ | refine Rt.tP ?_ | refine Rt.tD ?_ | refine Rt.tM ?_ | refine Rt.tC ?_ | refine Rt.tN ?_ | refine Rt.tA ?_ | refine Rt.tG ?_ | refine Rt.tF ?_ | refine Rt.os ?_ | refine Rt.clS ?_ | refine Rt.jmN ?_ | refine Rt.jbN ?_ | refine Rt.jbE ?_)) | ((with_reducible (first | apply Rt.ld0 | apply Rt.ld1 | apply Rt.ld2 | apply Rt.ld3 | apply Rt.ld4 | apply Rt.ld5)); first | assumption | exact Lc.kp (by assumption) (by assumption)) | ((with_reducible apply Rt.ol); first | assumption | exact cell_kp (by assumption) (by assumption)))); exact Rt.some' rfl))))
    refine Rt.st4 lg fun w1 l1 g1 => Rt.some' ⟨rfl, hf w1 (hsl ?_ l1 g1) g1⟩
    rw [hm]; rfl
  · (repeat (first | (with_reducible (first | refine Rt.fin ?_ | refine Rt.tL ?_ | refine Rt.tI ?_ | refine Rt.tB ?_ | refine Rt.tS ?_ | refine Rt.tP ?_ | refine Rt.tD ?_ | refine Rt.tM ?_ | refine Rt.tC ?_ | refine Rt.tN ?_ | refine Rt.tA ?_ | refine Rt.tG ?_ | refine Rt.tF ?_ | refine Rt.os ?_ | refine Rt.clS ?_ | refine Rt.jmN ?_ | refine Rt.jbN ?_ | refine Rt.jbE ?_)) | ((with_reducible (first | apply Rt.ld0 | apply Rt.ld1 | apply Rt.ld2 | apply Rt.ld3 | apply Rt.ld4 | apply Rt.ld5)); first | assumption | exact Lc.kp (by assumption) (by assumption)) | ((with_reducible apply Rt.ol); first | assumption | exact cell_kp (by assumption) (by assumption)) | ((with_reducible apply Rt.ckR); focus ((repeat (first | (with_reducible (first | refine Rt.fin ?_ | refine Rt.tL ?_ | refine Rt.tI ?_ | refine Rt.tB ?_ | refine Rt.tS ?_ | refine Rt.tP ?_ | refine Rt.tD ?_ | refine Rt.tM ?_ | refine Rt.tC ?_ | refine Rt.tN ?_ | refine Rt.tA ?_ | refine Rt.tG ?_ | refine Rt.tF ?_ | refine Rt.os ?_ | refine Rt.clS ?_ | refine Rt.jmN ?_ | refine Rt.jbN ?_ | refine Rt.jbE ?_)) | ((with_reducible (first | apply Rt.ld0 | apply Rt.ld1 | apply Rt.ld2 | apply Rt.ld3 | apply Rt.ld4 | apply Rt.ld5)); first | assumption | exact Lc.kp (by assumption) (by assumption)) | ((with_reducible apply Rt.ol); first | assumption | exact cell_kp (by assumption) (by assumption)))); exact Rt.some' rfl))))
    refine Rt.st4 lg fun w1 l1 g1 => Rt.some' ⟨rfl, hf w1 (hsl ?_ l1 g1) g1⟩
    rw [hm]; rfl
/-- The hand goes on. -/
theorem nextM (h : CaV w base cb R A c gs s) (hS : ∀ j, CaS cb R A c gs j → S j) (hh : s.hand < 2 ^ 30) {F : World → Option Res} {Q : Res → Prop} (hf : ∀ w1, CaV w1 base cb R A c gs (roundS { s with hand := s.hand + 1 }) → Gx (fun k => k = cb) w w1 → Rt (F w1) Q) :
    Rt (opt (some (⟨cb, 0, none⟩ : Addr)) fun ad95 => opt (w.cell? (Addr.add ad95 3)) fun v96 => tI .i64 v96 fun n97 => opt (some (⟨cb, 0, none⟩ : Addr)) fun ad98 => stC w (Addr.add ad98 3) (.int .i64 (IntKind.i64.wrap (n97 + 1))) fun w99 => cl (clock_Cache_round n [.pointer (some ⟨cb, 0, none⟩)] w99) fun vs100 w101 => tN vs100 (F w101)) Q := by
  have lc := h.lc
  (repeat (first | (with_reducible (first | refine Rt.fin ?_ | refine Rt.tL ?_ | refine Rt.tI ?_ | refine Rt.tB ?_ | refine Rt.tS ?_ | refine Rt.tP ?_ | refine Rt.tD ?_ | refine Rt.tM ?_ | refine Rt.tC ?_ | refine Rt.tN ?_ | refine Rt.tA ?_ | refine Rt.tG ?_ | refine Rt.tF ?_ | refine Rt.os ?_ | refine Rt.clS ?_ | refine Rt.jmN ?_ | refine Rt.jbN ?_ | refine Rt.jbE ?_)) | ((with_reducible (first | apply Rt.ld0 | apply Rt.ld1 | apply Rt.ld2 | apply Rt.ld3 | apply Rt.ld4 | apply Rt.ld5)); first | assumption | exact Lc.kp (by assumption) (by assumption)) | ((with_reducible apply Rt.ol); first | assumption | exact cell_kp (by assumption) (by assumption)) | ((with_reducible apply Rt.ckR); focus ((repeat (first | (with_reducible (first | refine Rt.fin ?_ | refine Rt.tL ?_ | refine Rt.tI ?_ | refine Rt.tB ?_ | refine Rt.tS ?_ | refine Rt.tP ?_ | refine Rt.tD ?_ | refine Rt.tM ?_ | refine Rt.tC ?_ | refine Rt.tN ?_ | refine Rt.tA ?_ | refine Rt.tG ?_ | refine Rt.tF ?_ | refine Rt.os ?_ | refine Rt.clS ?_ | refine Rt.jmN ?_ | refine Rt.jbN ?_ | refine Rt.jbE ?_)) | ((with_reducible (first | apply Rt.ld0 | apply Rt.ld1 | apply Rt.ld2 | apply Rt.ld3 | apply Rt.ld4 | apply Rt.ld5)); first | assumption | exact Lc.kp (by assumption) (by assumption)) | ((with_reducible apply Rt.ol); first | assumption | exact cell_kp (by assumption) (by assumption)))); exact Rt.some' rfl))))
  rw [i64_in _ (by omega), show ((s.hand : Int) + 1) = ((s.hand + 1 : Nat) : Int) by omega]
  refine Rt.st3 lc fun w1 l1 g1 => ?_
  have h1 := h.head (hand := s.hand + 1) g1 l1
  obtain ⟨_, e, w2, rfl, g2, h2⟩ := round_spec (n := n) (S := S) h1 hS
  refine Rt.cl e ?_
  (repeat (first | (with_reducible (first | refine Rt.fin ?_ | refine Rt.tL ?_ | refine Rt.tI ?_ | refine Rt.tB ?_ | refine Rt.tS ?_ | refine Rt.tP ?_ | refine Rt.tD ?_ | refine Rt.tM ?_ | refine Rt.tC ?_ | refine Rt.tN ?_ | refine Rt.tA ?_ | refine Rt.tG ?_ | refine Rt.tF ?_ | refine Rt.os ?_ | refine Rt.clS ?_ | refine Rt.jmN ?_ | refine Rt.jbN ?_ | refine Rt.jbE ?_)) | ((with_reducible (first | apply Rt.ld0 | apply Rt.ld1 | apply Rt.ld2 | apply Rt.ld3 | apply Rt.ld4 | apply Rt.ld5)); first | assumption | exact Lc.kp (by assumption) (by assumption)) | ((with_reducible apply Rt.ol); first | assumption | exact cell_kp (by assumption) (by assumption)) | ((with_reducible apply Rt.ckR); focus ((repeat (first | (with_reducible (first | refine Rt.fin ?_ | refine Rt.tL ?_ | refine Rt.tI ?_ | refine Rt.tB ?_ | refine Rt.tS ?_ | refine Rt.tP ?_ | refine Rt.tD ?_ | refine Rt.tM ?_ | refine Rt.tC ?_ | refine Rt.tN ?_ | refine Rt.tA ?_ | refine Rt.tG ?_ | refine Rt.tF ?_ | refine Rt.os ?_ | refine Rt.clS ?_ | refine Rt.jmN ?_ | refine Rt.jbN ?_ | refine Rt.jbE ?_)) | ((with_reducible (first | apply Rt.ld0 | apply Rt.ld1 | apply Rt.ld2 | apply Rt.ld3 | apply Rt.ld4 | apply Rt.ld5)); first | assumption | exact Lc.kp (by assumption) (by assumption)) | ((with_reducible apply Rt.ol); first | assumption | exact cell_kp (by assumption) (by assumption)))); exact Rt.some' rfl))))
  exact hf w2 h2 (g1.tr g2)
theorem free_g0 (hn : 2 ^ 60 < n) : ∀ (m : Nat) (s : Ca) (left : Nat) (w' : World), Cs w' base cb S s → Ok N s → left ≤ 2 * s.l.length → fuelM s.l.length left < m → Gx S w0 w' →
    Rt (clock_Cache_free.g0 n m (some ⟨cb, 0, none⟩) k (left : Int) w') fun r => ∃ w1, r = ⟨.ret, [.bool (freeF m s k left).2], w1⟩ ∧ Gx S w0 w1 ∧ Cs w1 base cb S (freeF m s k left).1 := by
  intro m
  induction m with
  | zero => intro s left w' _ _ _ h _; omega
  | succ m ih =>
    intro s left w' hC ho hl hm hg
    rw [clock_Cache_free.g0_succ]
    have hr := ho.rng
    have hro := ho.room
    obtain ⟨R, A, c, gs, hV, hS⟩ := hC.kp (Kp.rfl' w').dr
    have hgl := hV.len
    have lcd := hV.lc
    have hgd : Gx S w0 w'.drew := hg.dr
    have hgdd : Gx S w0 w'.drew.drew := hgd.dr
    have hVd := hV.gx (T := fun _ => False) (Kp.rfl' w'.drew).dr.gx fun _ _ h => h
    have lcdd := hVd.lc
    have hS' : ∀ j, CaS cb R A c gs j → S j := fun j hj => (hS j hj).1
    (repeat (first | (with_reducible (first | refine Rt.fin ?_ | refine Rt.tL ?_ | refine Rt.tI ?_ | refine Rt.tB ?_ | refine Rt.tS ?_ | refine Rt.tP ?_ | refine Rt.tD ?_ | refine Rt.tM ?_ | refine Rt.tC ?_ | refine Rt.tN ?_ | refine Rt.tA ?_ | refine Rt.tG ?_ | refine Rt.tF ?_ | refine Rt.os ?_ | refine Rt.clS ?_ | refine Rt.jmN ?_ | refine Rt.jbN ?_ | refine Rt.jbE ?_)) | ((with_reducible (first | apply Rt.ld0 | apply Rt.ld1 | apply Rt.ld2 | apply Rt.ld3 | apply Rt.ld4 | apply Rt.ld5)); first | assumption | exact Lc.kp (by assumption) (by assumption)) | ((with_reducible apply Rt.ol); first | assumption | exact cell_kp (by assumption) (by assumption)) | ((with_reducible apply Rt.ckR); focus ((repeat (first | (with_reducible (first | refine Rt.fin ?_ | refine Rt.tL ?_ | refine Rt.tI ?_ | refine Rt.tB ?_ | refine Rt.tS ?_ | refine Rt.tP ?_ | refine Rt.tD ?_ | refine Rt.tM ?_ | refine Rt.tC ?_ | refine Rt.tN ?_ | refine Rt.tA ?_ | refine Rt.tG ?_ | refine Rt.tF ?_ | refine Rt.os ?_ | refine Rt.clS ?_ | refine Rt.jmN ?_ | refine Rt.jbN ?_ | refine Rt.jbE ?_)) | ((with_reducible (first | apply Rt.ld0 | apply Rt.ld1 | apply Rt.ld2 | apply Rt.ld3 | apply Rt.ld4 | apply Rt.ld5)); first | assumption | exact Lc.kp (by assumption) (by assumption)) | ((with_reducible apply Rt.ol); first | assumption | exact cell_kp (by assumption) (by assumption)))); exact Rt.some' rfl))))
    rw [i64_in (s.room - s.used) (by omega)]
    refine Rt.cD (fun hle => ?_) fun hgt => ?_
    · rw [free_yes hle]
      exact Rt.some' ⟨_, rfl, hgd, hV.cs hS'⟩
    refine Rt.cQ (fun h0 => ?_) fun h0 => ?_
    · rw [free_no hgt (by omega)]
      exact Rt.some' ⟨_, rfl, hgd, hV.cs hS'⟩
    have hlen : 0 < s.l.length := by omega
    have hh : s.hand < s.l.length := by rcases ho.hand with h | h <;> omega
    have hx : s.l[s.hand]? = some (s.l[s.hand]'hh) := List.getElem?_eq_getElem _
    generalize (s.l[s.hand]'hh) = x at hx
    (repeat (first | (with_reducible (first | refine Rt.fin ?_ | refine Rt.tL ?_ | refine Rt.tI ?_ | refine Rt.tB ?_ | refine Rt.tS ?_ | refine Rt.tP ?_ | refine Rt.tD ?_ | refine Rt.tM ?_ | refine Rt.tC ?_ | refine Rt.tN ?_ | refine Rt.tA ?_ | refine Rt.tG ?_ | refine Rt.tF ?_ | refine Rt.os ?_ | refine Rt.clS ?_ | refine Rt.jmN ?_ | refine Rt.jbN ?_ | refine Rt.jbE ?_)) | ((with_reducible (first | apply Rt.ld0 | apply Rt.ld1 | apply Rt.ld2 | apply Rt.ld3 | apply Rt.ld4 | apply Rt.ld5)); first | assumption | exact Lc.kp (by assumption) (by assumption)) | ((with_reducible apply Rt.ol); first | assumption | exact cell_kp (by assumption) (by assumption)) | ((with_reducible apply Rt.ckR); focus ((repeat (first | (with_reducible (first | refine Rt.fin ?_ | refine Rt.tL ?_ | refine Rt.tI ?_ | refine Rt.tB ?_ | refine Rt.tS ?_ | refine Rt.tP ?_ | refine Rt.tD ?_ | refine Rt.tM ?_ | refine Rt.tC ?_ | refine Rt.tN ?_ | refine Rt.tA ?_ | refine Rt.tG ?_ | refine Rt.tF ?_ | refine Rt.os ?_ | refine Rt.clS ?_ | refine Rt.jmN ?_ | refine Rt.jbN ?_ | refine Rt.jbE ?_)) | ((with_reducible (first | apply Rt.ld0 | apply Rt.ld1 | apply Rt.ld2 | apply Rt.ld3 | apply Rt.ld4 | apply Rt.ld5)); first | assumption | exact Lc.kp (by assumption) (by assumption)) | ((with_reducible apply Rt.ol); first | assumption | exact cell_kp (by assumption) (by assumption)))); exact Rt.some' rfl))))
    refine Rt.ixSl hVd hx fun a g B d hi hd ha hlc hb => ?_
    have hgS : S g := hS' g (.inr (.inr (.inl (List.mem_of_getElem? hi))))
    have hcS : S cb := hS' cb (.inl rfl)
    have hpass : (0 < x.pins ∨ x.mark = true) → ∀ w1, CaV w1 base cb R A c gs { s with l := s.l.set s.hand { x with mark := x.mark && decide (0 < x.pins) } } → Gx (fun k => k = g) w'.drew.drew w1 → Rt (opt (some (⟨cb, 0, none⟩ : Addr)) fun ad95 => opt (w1.cell? (Addr.add ad95 3)) fun v96 => tI .i64 v96 fun n97 => opt (some (⟨cb, 0, none⟩ : Addr)) fun ad98 => stC w1 (Addr.add ad98 3) (.int .i64 (IntKind.i64.wrap (n97 + 1))) fun w99 => cl (clock_Cache_round n [.pointer (some ⟨cb, 0, none⟩)] w99) fun vs100 w101 => tN vs100 (clock_Cache_free.g0 n m (some ⟨cb, 0, none⟩) k (IntKind.i64.wrap ((left : Int) - 1)) w101)) fun r => ∃ w1, r = ⟨.ret, [.bool (freeF (m + 1) s k left).2], w1⟩ ∧ Gx S w0 w1 ∧ Cs w1 base cb S (freeF (m + 1) s k left).1 := fun hp w1 h1 g1 => by
      rw [free_pass hgt (by omega) hx hp]
      refine nextM (n := n) h1 hS' (by show s.hand < 2 ^ 30; omega) fun w2 h2 g2 => ?_
      rw [i64_in _ (by omega), show ((left : Int) - 1) = ((left - 1 : Nat) : Int) by omega]
      have hpl : (passS s x).l.length = s.l.length := pass_len
      refine ih (passS s x) (left - 1) w2 (h2.cs hS') (ho.pass hx) (by rw [hpl]; omega) (by rw [hpl]; unfold fuelM at hm ⊢; omega) ((hgdd.tr (g1.wide fun j _ e => by rw [e]; exact hgS)).tr (g2.wide fun j _ e => by rw [e]; exact hcS))
    (repeat (first | (with_reducible (first | refine Rt.fin ?_ | refine Rt.tL ?_ | refine Rt.tI ?_ | refine Rt.tB ?_ | refine Rt.tS ?_ | refine Rt.tP ?_ | refine Rt.tD ?_ | refine Rt.tM ?_ | refine Rt.tC ?_ | refine Rt.tN ?_ | refine Rt.tA ?_ | refine Rt.tG ?_ | refine Rt.tF ?_ | refine Rt.os ?_ | refine Rt.clS ?_ | refine Rt.jmN ?_ | refine Rt.jbN ?_ | refine Rt.jbE ?_)) | ((with_reducible (first | apply Rt.ld0 | apply Rt.ld1 | apply Rt.ld2 | apply Rt.ld3 | apply Rt.ld4 | apply Rt.ld5)); first | assumption | exact Lc.kp (by assumption) (by assumption)) | ((with_reducible apply Rt.ol); first | assumption | exact cell_kp (by assumption) (by assumption)) | ((with_reducible apply Rt.ckR); focus ((repeat (first | (with_reducible (first | refine Rt.fin ?_ | refine Rt.tL ?_ | refine Rt.tI ?_ | refine Rt.tB ?_ | refine Rt.tS ?_ | refine Rt.tP ?_ | refine Rt.tD ?_ | refine Rt.tM ?_ | refine Rt.tC ?_ | refine Rt.tN ?_ | refine Rt.tA ?_ | refine Rt.tG ?_ | refine Rt.tF ?_ | refine Rt.os ?_ | refine Rt.clS ?_ | refine Rt.jmN ?_ | refine Rt.jbN ?_ | refine Rt.jbE ?_)) | ((with_reducible (first | apply Rt.ld0 | apply Rt.ld1 | apply Rt.ld2 | apply Rt.ld3 | apply Rt.ld4 | apply Rt.ld5)); first | assumption | exact Lc.kp (by assumption) (by assumption)) | ((with_reducible apply Rt.ol); first | assumption | exact cell_kp (by assumption) (by assumption)))); exact Rt.some' rfl))))
    refine Rt.cD (fun hp => ?_) fun hp => ?_
    · refine passM hVd hi hx hlc fun w1 h1 g1 => ?_
      (repeat (first | (with_reducible (first | refine Rt.fin ?_ | refine Rt.tL ?_ | refine Rt.tI ?_ | refine Rt.tB ?_ | refine Rt.tS ?_ | refine Rt.tP ?_ | refine Rt.tD ?_ | refine Rt.tM ?_ | refine Rt.tC ?_ | refine Rt.tN ?_ | refine Rt.tA ?_ | refine Rt.tG ?_ | refine Rt.tF ?_ | refine Rt.os ?_ | refine Rt.clS ?_ | refine Rt.jmN ?_ | refine Rt.jbN ?_ | refine Rt.jbE ?_)) | ((with_reducible (first | apply Rt.ld0 | apply Rt.ld1 | apply Rt.ld2 | apply Rt.ld3 | apply Rt.ld4 | apply Rt.ld5)); first | assumption | exact Lc.kp (by assumption) (by assumption)) | ((with_reducible apply Rt.ol); first | assumption | exact cell_kp (by assumption) (by assumption)) | ((with_reducible apply Rt.ckR); focus ((repeat (first | (with_reducible (first | refine Rt.fin ?_ | refine Rt.tL ?_ | refine Rt.tI ?_ | refine Rt.tB ?_ | refine Rt.tS ?_ | refine Rt.tP ?_ | refine Rt.tD ?_ | refine Rt.tM ?_ | refine Rt.tC ?_ | refine Rt.tN ?_ | refine Rt.tA ?_ | refine Rt.tG ?_ | refine Rt.tF ?_ | refine Rt.os ?_ | refine Rt.clS ?_ | refine Rt.jmN ?_ | refine Rt.jbN ?_ | refine Rt.jbE ?_)) | ((with_reducible (first | apply Rt.ld0 | apply Rt.ld1 | apply Rt.ld2 | apply Rt.ld3 | apply Rt.ld4 | apply Rt.ld5)); first | assumption | exact Lc.kp (by assumption) (by assumption)) | ((with_reducible apply Rt.ol); first | assumption | exact cell_kp (by assumption) (by assumption)))); exact Rt.some' rfl))))
      exact hpass (.inl hp) w1 h1 g1
    · (repeat (first | (with_reducible (first | refine Rt.fin ?_ | refine Rt.tL ?_ | refine Rt.tI ?_ | refine Rt.tB ?_ | refine Rt.tS ?_ | refine Rt.tP ?_ | refine Rt.tD ?_ | refine Rt.tM ?_ | refine Rt.tC ?_ | refine Rt.tN ?_ | refine Rt.tA ?_ | refine Rt.tG ?_ | refine Rt.tF ?_ | refine Rt.os ?_ | refine Rt.clS ?_ | refine Rt.jmN ?_ | refine Rt.jbN ?_ | refine Rt.jbE ?_)) | ((with_reducible (first | apply Rt.ld0 | apply Rt.ld1 | apply Rt.ld2 | apply Rt.ld3 | apply Rt.ld4 | apply Rt.ld5)); first | assumption | exact Lc.kp (by assumption) (by assumption)) | ((with_reducible apply Rt.ol); first | assumption | exact cell_kp (by assumption) (by assumption)) | ((with_reducible apply Rt.ckR); focus ((repeat (first | (with_reducible (first | refine Rt.fin ?_ | refine Rt.tL ?_ | refine Rt.tI ?_ | refine Rt.tB ?_ | refine Rt.tS ?_ | refine Rt.tP ?_ | refine Rt.tD ?_ | refine Rt.tM ?_ | refine Rt.tC ?_ | refine Rt.tN ?_ | refine Rt.tA ?_ | refine Rt.tG ?_ | refine Rt.tF ?_ | refine Rt.os ?_ | refine Rt.clS ?_ | refine Rt.jmN ?_ | refine Rt.jbN ?_ | refine Rt.jbE ?_)) | ((with_reducible (first | apply Rt.ld0 | apply Rt.ld1 | apply Rt.ld2 | apply Rt.ld3 | apply Rt.ld4 | apply Rt.ld5)); first | assumption | exact Lc.kp (by assumption) (by assumption)) | ((with_reducible apply Rt.ol); first | assumption | exact cell_kp (by assumption) (by assumption)))); exact Rt.some' rfl))))
      refine Rt.cB (fun hmk => ?_) fun hmk => ?_
      · refine passM hVd hi hx hlc fun w1 h1 g1 => ?_
        (repeat (first | (with_reducible (first | refine Rt.fin ?_ | refine Rt.tL ?_ | refine Rt.tI ?_ | refine Rt.tB ?_ | refine Rt.tS ?_ | refine Rt.tP ?_ | refine Rt.tD ?_ | refine Rt.tM ?_ | refine Rt.tC ?_ | refine Rt.tN ?_ | refine Rt.tA ?_ | refine Rt.tG ?_ | refine Rt.tF ?_ | refine Rt.os ?_ | refine Rt.clS ?_ | refine Rt.jmN ?_ | refine Rt.jbN ?_ | refine Rt.jbE ?_)) | ((with_reducible (first | apply Rt.ld0 | apply Rt.ld1 | apply Rt.ld2 | apply Rt.ld3 | apply Rt.ld4 | apply Rt.ld5)); first | assumption | exact Lc.kp (by assumption) (by assumption)) | ((with_reducible apply Rt.ol); first | assumption | exact cell_kp (by assumption) (by assumption)) | ((with_reducible apply Rt.ckR); focus ((repeat (first | (with_reducible (first | refine Rt.fin ?_ | refine Rt.tL ?_ | refine Rt.tI ?_ | refine Rt.tB ?_ | refine Rt.tS ?_ | refine Rt.tP ?_ | refine Rt.tD ?_ | refine Rt.tM ?_ | refine Rt.tC ?_ | refine Rt.tN ?_ | refine Rt.tA ?_ | refine Rt.tG ?_ | refine Rt.tF ?_ | refine Rt.os ?_ | refine Rt.clS ?_ | refine Rt.jmN ?_ | refine Rt.jbN ?_ | refine Rt.jbE ?_)) | ((with_reducible (first | apply Rt.ld0 | apply Rt.ld1 | apply Rt.ld2 | apply Rt.ld3 | apply Rt.ld4 | apply Rt.ld5)); first | assumption | exact Lc.kp (by assumption) (by assumption)) | ((with_reducible apply Rt.ol); first | assumption | exact cell_kp (by assumption) (by assumption)))); exact Rt.some' rfl))))
        exact hpass (.inr hmk) w1 h1 g1
      · (repeat (first | (with_reducible (first | refine Rt.fin ?_ | refine Rt.tL ?_ | refine Rt.tI ?_ | refine Rt.tB ?_ | refine Rt.tS ?_ | refine Rt.tP ?_ | refine Rt.tD ?_ | refine Rt.tM ?_ | refine Rt.tC ?_ | refine Rt.tN ?_ | refine Rt.tA ?_ | refine Rt.tG ?_ | refine Rt.tF ?_ | refine Rt.os ?_ | refine Rt.clS ?_ | refine Rt.jmN ?_ | refine Rt.jbN ?_ | refine Rt.jbE ?_)) | ((with_reducible (first | apply Rt.ld0 | apply Rt.ld1 | apply Rt.ld2 | apply Rt.ld3 | apply Rt.ld4 | apply Rt.ld5)); first | assumption | exact Lc.kp (by assumption) (by assumption)) | ((with_reducible apply Rt.ol); first | assumption | exact cell_kp (by assumption) (by assumption)) | ((with_reducible apply Rt.ckR); focus ((repeat (first | (with_reducible (first | refine Rt.fin ?_ | refine Rt.tL ?_ | refine Rt.tI ?_ | refine Rt.tB ?_ | refine Rt.tS ?_ | refine Rt.tP ?_ | refine Rt.tD ?_ | refine Rt.tM ?_ | refine Rt.tC ?_ | refine Rt.tN ?_ | refine Rt.tA ?_ | refine Rt.tG ?_ | refine Rt.tF ?_ | refine Rt.os ?_ | refine Rt.clS ?_ | refine Rt.jmN ?_ | refine Rt.jbN ?_ | refine Rt.jbE ?_)) | ((with_reducible (first | apply Rt.ld0 | apply Rt.ld1 | apply Rt.ld2 | apply Rt.ld3 | apply Rt.ld4 | apply Rt.ld5)); first | assumption | exact Lc.kp (by assumption) (by assumption)) | ((with_reducible apply Rt.ol); first | assumption | exact cell_kp (by assumption) (by assumption)))); exact Rt.some' rfl))))
        have hCd : Cs w'.drew.drew base cb S s := hVd.cs hS'
        obtain ⟨_, e, w2, rfl, g2, h2⟩ := gone_spec (n := n) hCd ho hx
        refine Rt.cl e ?_
        refine Rt.tN ?_
        obtain ⟨R2, A2, c2, gs2, hV2, hS2⟩ := id h2
        have lc2 := hV2.lc
        have hgl2 := hV2.len
        (repeat (first | (with_reducible (first | refine Rt.fin ?_ | refine Rt.tL ?_ | refine Rt.tI ?_ | refine Rt.tB ?_ | refine Rt.tS ?_ | refine Rt.tP ?_ | refine Rt.tD ?_ | refine Rt.tM ?_ | refine Rt.tC ?_ | refine Rt.tN ?_ | refine Rt.tA ?_ | refine Rt.tG ?_ | refine Rt.tF ?_ | refine Rt.os ?_ | refine Rt.clS ?_ | refine Rt.jmN ?_ | refine Rt.jbN ?_ | refine Rt.jbE ?_)) | ((with_reducible (first | apply Rt.ld0 | apply Rt.ld1 | apply Rt.ld2 | apply Rt.ld3 | apply Rt.ld4 | apply Rt.ld5)); first | assumption | exact Lc.kp (by assumption) (by assumption)) | ((with_reducible apply Rt.ol); first | assumption | exact cell_kp (by assumption) (by assumption)) | ((with_reducible apply Rt.ckR); focus ((repeat (first | (with_reducible (first | refine Rt.fin ?_ | refine Rt.tL ?_ | refine Rt.tI ?_ | refine Rt.tB ?_ | refine Rt.tS ?_ | refine Rt.tP ?_ | refine Rt.tD ?_ | refine Rt.tM ?_ | refine Rt.tC ?_ | refine Rt.tN ?_ | refine Rt.tA ?_ | refine Rt.tG ?_ | refine Rt.tF ?_ | refine Rt.os ?_ | refine Rt.clS ?_ | refine Rt.jmN ?_ | refine Rt.jbN ?_ | refine Rt.jbE ?_)) | ((with_reducible (first | apply Rt.ld0 | apply Rt.ld1 | apply Rt.ld2 | apply Rt.ld3 | apply Rt.ld4 | apply Rt.ld5)); first | assumption | exact Lc.kp (by assumption) (by assumption)) | ((with_reducible apply Rt.ol); first | assumption | exact cell_kp (by assumption) (by assumption)))); exact Rt.some' rfl))))
        have hgl3 := gone_len hx
        rw [free_gone hgt (by omega) hx (by rw [hmk]; rintro (h | h); exact hp h; cases h)]
        rw [i64_in _ (by omega), show (2 * (gs2.length : Int)) = ((2 * (goneS s s.hand).l.length : Nat) : Int) by omega]
        refine ih (goneS s s.hand) _ w2 h2 (ho.gone hx) (Nat.le_refl _) ?_ (hgdd.tr g2)
        have := fuel_gone (len := s.l.length) (left := left) hlen (by omega)
        rw [hgl3]; omega
end
end Go.Proofs.Ytdnbpgakmbamoaa.Ck
