/- ClockRoom: what a cache's pins are, in plain lists. -/
import Derived.Test.YtdnbpgakmbamoaaK6
namespace Go.Proofs.Ytdnbpgakmbamoaa.Ck
open Go Big Go.RowKit Go.IntWalk
set_option linter.unusedVariables false
set_option linter.unusedSimpArgs false
def keyS (x : Slo) : Int × Int := (x.file, x.pos)
def gk (f p : Int) (x : Slo) : Int := if x.file = f ∧ x.pos = p then x.pins else 0
def bumpG (G : Int → Int → Int) (f p d : Int) : Int → Int → Int := fun f' p' => if f' = f ∧ p' = p then G f p + d else G f' p'
structure JR (G : Int → Int → Int) (T r : Int) (s : Ca) : Prop where
  room : s.room = r
  used : s.used ≤ r
  nd : (s.l.map keyS).Nodup
  cnt : ∀ f p, (s.l.map (gk f p)).sum = G f p
  tot : pinsA s.l = T
  nn : ∀ x ∈ s.l, 0 ≤ x.pins
theorem keys_set {l : List Slo} {i : Nat} {x x' : Slo} (hx : l[i]? = some x) (hk : keyS x' = keyS x) : (l.set i x').map keyS = l.map keyS := by
  rw [List.map_set, hk]
  apply List.ext_getElem?
  intro j
  rw [List.getElem?_set]
  split
  · rename_i h; subst h
    split
    · rw [List.getElem?_map, hx]; rfl
    · rename_i h
      rw [List.getElem?_eq_none (by omega)]
  · rfl
theorem gk_one {f p : Int} : ∀ {l : List Slo} {i : Nat} {x : Slo}, (l.map keyS).Nodup → l[i]? = some x → x.file = f → x.pos = p → (l.map (gk f p)).sum = x.pins
  | [], i, x, _, h, _, _ => by simp at h
  | y :: l, 0, x, hn, h, h1, h2 => by
    simp at h; subst h
    rw [List.map_cons, List.nodup_cons] at hn
    have : ∀ (l : List Slo), keyS y ∉ l.map keyS → (l.map (gk f p)).sum = 0 := by
      intro l
      induction l with
      | nil => intro _; rfl
      | cons z l ih =>
        intro hm
        rw [List.map_cons, List.mem_cons, not_or] at hm
        rw [List.map_cons, List.sum_cons, ih hm.2]
        have : gk f p z = 0 := if_neg fun h => hm.1 (by unfold keyS; rw [h1, h2, h.1, h.2])
        rw [this]; rfl
    rw [List.map_cons, List.sum_cons, this l hn.1]
    unfold gk
    rw [if_pos ⟨h1, h2⟩]; omega
  | y :: l, i + 1, x, hn, h, h1, h2 => by
    rw [List.map_cons, List.nodup_cons] at hn
    have h : l[i]? = some x := by simpa using h
    rw [List.map_cons, List.sum_cons, gk_one hn.2 h h1 h2]
    have : gk f p y = 0 := if_neg fun hh => hn.1 (by
      have : keyS y = keyS x := by unfold keyS; rw [h1, h2, hh.1, hh.2]
      rw [this]; exact List.mem_map_of_mem (List.mem_of_getElem? h))
    rw [this]; omega
theorem gk_none {f p : Int} {l : List Slo} (h : findI l f p = none) : (l.map (gk f p)).sum = 0 := by
  have h := findI_none.1 h
  induction l with
  | nil => rfl
  | cons y l ih =>
    rw [List.map_cons, List.sum_cons, ih (findI_none.2 fun x hx => h x (List.mem_cons_of_mem _ hx)) fun x hx => h x (List.mem_cons_of_mem _ hx)]
    have : gk f p y = 0 := if_neg (h y List.mem_cons_self)
    rw [this]; rfl
section
variable {G : Int → Int → Int} {T r : Int} {s : Ca}
theorem JR.same {s' : Ca} (h : JR G T r s) (h1 : s'.room = s.room) (h2 : s'.used = s.used) (h3 : s'.l = s.l) : JR G T r s' := by
  obtain ⟨a, b, c, d, e, f⟩ := h
  exact ⟨by rw [h1, a], by rw [h2]; exact b, by rw [h3]; exact c, by rw [h3]; exact d, by rw [h3]; exact e, by rw [h3]; exact f⟩
theorem JR.round (h : JR G T r s) : JR G T r (roundS s) := h.same (round_l s).2.1 (round_l s).2.2 (round_l s).1
theorem JR.mark (h : JR G T r s) {i : Nat} {x : Slo} (hx : s.l[i]? = some x) (m : Bool) : JR G T r { s with l := s.l.set i { x with mark := m } } := by
  obtain ⟨a, b, c, d, e, f⟩ := h
  refine ⟨a, b, ?_, fun f' p' => ?_, ?_, fun y hy => ?_⟩
  · show ((s.l.set i { x with mark := m }).map keyS).Nodup
    rw [keys_set (x' := { x with mark := m }) hx rfl]; exact c
  · show ((s.l.set i { x with mark := m }).map (gk f' p')).sum = _
    rw [sum_set (g := gk f' p') hx, d]
    show G f' p' - gk f' p' x + gk f' p' x = _
    omega
  · show pinsA (s.l.set i { x with mark := m }) = T
    unfold pinsA at e ⊢
    rw [sum_set (g := (·.pins)) hx, e]
    show T - x.pins + x.pins = T
    omega
  · rcases mem_set hy with hy | rfl
    · exact f y hy
    · exact f x (List.mem_of_getElem? hx)
theorem JR.pin (h : JR G T r s) {i : Nat} {x : Slo} {f p d : Int} (hx : s.l[i]? = some x) (h1 : x.file = f) (h2 : x.pos = p) (m : Bool) (hd : 0 ≤ x.pins + d) : JR (bumpG G f p d) (T + d) r { s with l := s.l.set i { x with pins := x.pins + d, mark := m } } := by
  obtain ⟨a, b, c, dd, e, g⟩ := h
  refine ⟨a, b, ?_, fun f' p' => ?_, ?_, fun y hy => ?_⟩
  · show ((s.l.set i { x with pins := x.pins + d, mark := m }).map keyS).Nodup
    rw [keys_set (x' := { x with pins := x.pins + d, mark := m }) hx rfl]; exact c
  · show ((s.l.set i { x with pins := x.pins + d, mark := m }).map (gk f' p')).sum = _
    rw [sum_set (g := gk f' p') hx, dd]
    unfold bumpG gk
    by_cases hk : f' = f ∧ p' = p
    · rw [if_pos hk, if_pos (by rw [h1, h2, hk.1, hk.2]; exact ⟨rfl, rfl⟩), if_pos (by show x.file = f' ∧ x.pos = p'; rw [h1, h2, hk.1, hk.2]; exact ⟨rfl, rfl⟩), hk.1, hk.2]
      show G f p - x.pins + (x.pins + d) = _
      omega
    · rw [if_neg hk, if_neg (fun hh => hk ⟨hh.1.symm.trans h1, hh.2.symm.trans h2⟩), if_neg (fun hh => hk ⟨hh.1.symm.trans h1, hh.2.symm.trans h2⟩)]
      omega
  · show pinsA (s.l.set i { x with pins := x.pins + d, mark := m }) = T + d
    unfold pinsA at e ⊢
    rw [sum_set (g := (·.pins)) hx, e]
    show T - x.pins + (x.pins + d) = T + d
    omega
  · rcases mem_set hy with hy | rfl
    · exact g y hy
    · exact hd
theorem JR.gone (h : JR G T r s) {i : Nat} {x : Slo} (hx : s.l[i]? = some x) (hp : x.pins = 0) : JR G T r (goneS s i) := by
  rw [gone_eq hx]
  apply JR.round
  obtain ⟨a, b, c, dd, e, g⟩ := h
  refine ⟨a, by show s.used - (x.b.length : Int) ≤ r; omega, ?_, fun f' p' => ?_, ?_, fun y hy => g y ((List.eraseIdx_sublist ..).subset hy)⟩
  · exact c.sublist ((List.eraseIdx_sublist s.l i).map keyS)
  · show ((s.l.eraseIdx i).map (gk f' p')).sum = _
    rw [sum_erase (g := gk f' p') hx, dd]
    have : gk f' p' x = 0 := by unfold gk; split; exact hp; rfl
    rw [this]; omega
  · show pinsA (s.l.eraseIdx i) = T
    unfold pinsA at e ⊢
    rw [sum_erase (g := (·.pins)) hx, e, hp]; omega
theorem JR.pass (h : JR G T r s) {x : Slo} (hx : s.l[s.hand]? = some x) : JR G T r (passS s x) := by
  unfold passS
  exact (((h.mark hx (x.mark && decide (0 < x.pins))).same (s' := { s with l := s.l.set s.hand { x with mark := x.mark && decide (0 < x.pins) }, hand := s.hand + 1 }) rfl rfl rfl)).round
theorem JR.free {k : Int} : ∀ (m : Nat) (s : Ca) (left : Nat), JR G T r s → JR G T r (freeF m s k left).1 ∧ ((freeF m s k left).2 = true → (freeF m s k left).1.used + k ≤ r)
  | 0, s, left, h => ⟨h, fun h' => by cases h'⟩
  | m + 1, s, left, h => by
    by_cases h1 : k ≤ s.room - s.used
    · rw [free_yes h1]; exact ⟨h, fun _ => by have := h.room; show s.used + k ≤ r; omega⟩
    · by_cases h0 : left = 0
      · rw [free_no h1 h0]; exact ⟨h, fun h' => by cases h'⟩
      · cases hx : s.l[s.hand]? with
        | none =>
          have : freeF (m + 1) s k left = (s, false) := by
            show (if k ≤ s.room - s.used then (s, true) else if left = 0 then (s, false) else match s.l[s.hand]? with
              | none => (s, false)
              | some x => if 0 < x.pins ∨ x.mark = true then freeF m (passS s x) k (left - 1) else freeF m (goneS s s.hand) k (2 * (goneS s s.hand).l.length)) = _
            rw [if_neg h1, if_neg h0, hx]
          rw [this]; exact ⟨h, fun h' => by cases h'⟩
        | some x =>
          by_cases hp : 0 < x.pins ∨ x.mark = true
          · rw [free_pass h1 h0 hx hp]; exact JR.free m _ _ (h.pass hx)
          · rw [free_gone h1 h0 hx hp]
            have := h.nn x (List.mem_of_getElem? hx)
            exact JR.free m _ _ (h.gone hx (by omega))
theorem JR.drop {f : Int} : ∀ (m : Nat) (s : Ca) (n : Int) (i : Nat), JR G T r s → JR G T r (dropF m s f n i).1
  | 0, s, n, i, h => h
  | m + 1, s, n, i, h => by
    cases hx : s.l[i]? with
    | none => rw [drop_end hx]; exact h
    | some x =>
      by_cases hp : x.file = f ∧ x.pins = 0
      · rw [drop_gone hx hp]; exact JR.drop m _ _ _ (h.gone hx hp.2)
      · rw [drop_stay hx hp]; exact JR.drop m _ _ _ h
theorem JR.get {f p : Int} (h : JR G T r s) : ((getB s f p).isSome = true ∧ JR (bumpG G f p 1) (T + 1) r (getS s f p)) ∨ ((getB s f p).isSome = false ∧ getS s f p = s ∧ G f p = 0 ∧ findI s.l f p = none) := by
  cases hf : findI s.l f p with
  | none => exact .inr ⟨by unfold getB; rw [hf]; rfl, by unfold getS; rw [hf], by rw [← h.cnt, gk_none hf], rfl⟩
  | some i =>
    obtain ⟨x, hx, e1, e2⟩ := findI_some hf
    have eg : getS s f p = { s with l := s.l.set i { x with pins := x.pins + 1, mark := true } } := by unfold getS; rw [hf]; simp [hx]
    refine .inl ⟨by unfold getB; rw [hf]; simp [hx], ?_⟩
    rw [eg]
    have := h.nn x (List.mem_of_getElem? hx)
    exact h.pin hx e1 e2 true (by omega)
theorem JR.rel {f p : Int} (h : JR G T r s) : (relS s f p).2 = decide (0 < G f p) ∧ (0 < G f p → JR (bumpG G f p (-1)) (T + -1) r (relS s f p).1) ∧ (¬ 0 < G f p → JR G T r (relS s f p).1) := by
  cases hf : findI s.l f p with
  | none =>
    have e : relS s f p = (s, false) := by unfold relS; rw [hf]
    have hg : G f p = 0 := by rw [← h.cnt, gk_none hf]
    rw [e, hg]
    exact ⟨rfl, fun h' => by omega, fun _ => h⟩
  | some i =>
    obtain ⟨x, hx, e1, e2⟩ := findI_some hf
    have hg : G f p = x.pins := by rw [← h.cnt, gk_one h.nd hx e1 e2]
    have hnn := h.nn x (List.mem_of_getElem? hx)
    by_cases hp : x.pins = 0
    · have e : relS s f p = (s, false) := by unfold relS; rw [hf]; simp only [hx]; rw [if_pos hp]
      rw [e, hg, hp]
      exact ⟨rfl, fun h' => by omega, fun _ => h⟩
    · have e : relS s f p = ({ s with l := s.l.set i { x with pins := x.pins - 1 } }, true) := by unfold relS; rw [hf]; simp only [hx]; rw [if_neg hp]
      rw [e, hg]
      refine ⟨by rw [decide_eq_true]; omega, fun _ => ?_, fun h' => by omega⟩
      have := h.pin hx e1 e2 x.mark (d := -1) (by omega)
      rw [show x.pins + -1 = x.pins - 1 by omega] at this
      exact this
theorem JR.put {n : Nat} {f p : Int} {bs : List Int} (h : JR G T r s) : ((putS n s f p bs).2 = true ∧ JR (bumpG G f p 1) (T + 1) r (putS n s f p bs).1) ∨ ((putS n s f p bs).2 = false ∧ JR G T r (putS n s f p bs).1 ∧ G f p = 0) := by
  rcases h.get (f := f) (p := p) with ⟨h1, h2⟩ | ⟨h1, _, h3, h4⟩
  · have e : putS n s f p bs = (getS s f p, true) := by unfold putS; rw [if_pos h1]
    rw [e]; exact .inl ⟨rfl, h2⟩
  · have hfr := JR.free (k := (bs.length : Int)) (n + 1) s (2 * s.l.length) h
    have hno' : ∀ x ∈ (freeS n s bs.length).1.l, ¬ (x.file = f ∧ x.pos = p) := al_free (P := fun x => ¬ (x.file = f ∧ x.pos = p)) (fun x m h => h) _ _ _ (findI_none.1 h4)
    have hfr : JR G T r (freeS n s bs.length).1 ∧ ((freeS n s bs.length).2 = true → (freeS n s bs.length).1.used + bs.length ≤ r) := hfr
    unfold putS
    rw [if_neg (by rw [h1]; simp)]
    by_cases h5 : (freeS n s bs.length).2 = true
    · rw [if_pos h5]
      have hu := hfr.2 h5
      obtain ⟨a, b, c, dd, e, g⟩ := hfr.1
      generalize (freeS n s bs.length).1 = s1 at *
      refine .inl ⟨rfl, a, hu, ?_, fun f' p' => ?_, ?_, fun y hy => ?_⟩
      · show ((s1.l ++ [(⟨f, p, bs, 1, true⟩ : Slo)]).map keyS).Nodup
        rw [List.map_append, List.nodup_append]
        refine ⟨c, by simp, fun a ha b hb => ?_⟩
        simp at hb
        subst hb
        obtain ⟨y, hy, rfl⟩ := List.mem_map.1 ha
        intro he
        exact hno' y hy ⟨congrArg Prod.fst he, congrArg Prod.snd he⟩
      · show ((s1.l ++ [(⟨f, p, bs, 1, true⟩ : Slo)]).map (gk f' p')).sum = _
        rw [List.map_append, List.sum_append, dd]
        unfold bumpG
        simp only [List.map_cons, List.map_nil, List.sum_cons, List.sum_nil, gk]
        by_cases hk : f' = f ∧ p' = p
        · rw [if_pos hk, if_pos ⟨hk.1.symm, hk.2.symm⟩, hk.1, hk.2]; omega
        · rw [if_neg hk, if_neg (fun hh => hk ⟨hh.1.symm, hh.2.symm⟩)]; omega
      · show pinsA (s1.l ++ [(⟨f, p, bs, 1, true⟩ : Slo)]) = T + 1
        unfold pinsA at e ⊢
        rw [List.map_append, List.sum_append, e]; rfl
      · have hy : y ∈ s1.l ++ [(⟨f, p, bs, 1, true⟩ : Slo)] := hy
        rcases List.mem_append.1 hy with hy | hy
        · exact g y hy
        · rw [List.mem_singleton.1 hy]; show (0 : Int) ≤ 1; decide
    · rw [if_neg h5]
      exact .inr ⟨rfl, hfr.1, h3⟩
end
end Go.Proofs.Ytdnbpgakmbamoaa.Ck
