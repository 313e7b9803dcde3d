/- A cache among frozen blocks; what a property of slots lives through. -/
import Derived.Test.YtdnbpgakmbamoaaK5
namespace Go.Proofs.Ytdnbpgakmbamoaa.Ck
open Go Big Go.RowKit Go.IntWalk
set_option linter.unusedVariables false
set_option linter.unusedSimpArgs false
/-! ### Slots -/
section
variable {P : Slo → Prop} (hP : ∀ (x : Slo) (m : Bool), P x → P { x with mark := m })
include hP
theorem al_pass {s : Ca} {x : Slo} (hx : s.l[s.hand]? = some x) (h : ∀ y ∈ s.l, P y) : ∀ y ∈ (passS s x).l, P y := fun y hy => by
  unfold passS at hy
  rw [(round_l _).1] at hy
  rcases mem_set hy with hy | rfl
  · exact h y hy
  · exact hP x _ (h x (List.mem_of_getElem? hx))
omit hP in
theorem al_gone {s : Ca} {x : Slo} {i : Nat} (hx : s.l[i]? = some x) (h : ∀ y ∈ s.l, P y) : ∀ y ∈ (goneS s i).l, P y := fun y hy => by
  rw [gone_eq hx, (round_l _).1] at hy
  exact h y ((List.eraseIdx_sublist ..).subset hy)
theorem al_free {k : Int} : ∀ (m : Nat) (s : Ca) (left : Nat), (∀ y ∈ s.l, P y) → ∀ y ∈ (freeF m s k left).1.l, P y
  | 0, s, left, h => h
  | m + 1, s, left, h => by
    by_cases h1 : k ≤ s.room - s.used
    · rw [free_yes h1]; exact h
    · by_cases h0 : left = 0
      · rw [free_no h1 h0]; exact h
      · cases hx : s.l[s.hand]? with
        | none =>
          have : freeF (m + 1) s k left = (s, false) := by
            show (if k ≤ s.room - s.used then (s, true) else if left = 0 then (s, false) else match s.l[s.hand]? with
              | none => (s, false)
              | some x => if 0 < x.pins ∨ x.mark = true then freeF m (passS s x) k (left - 1) else freeF m (goneS s s.hand) k (2 * (goneS s s.hand).l.length)) = _
            rw [if_neg h1, if_neg h0, hx]
          rw [this]; exact h
        | some x =>
          by_cases hp : 0 < x.pins ∨ x.mark = true
          · rw [free_pass h1 h0 hx hp]; exact al_free m _ _ (al_pass hP hx h)
          · rw [free_gone h1 h0 hx hp]; exact al_free m _ _ (al_gone hx h)
omit hP in
theorem al_drop {f : Int} : ∀ (m : Nat) (s : Ca) (n : Int) (i : Nat), (∀ y ∈ s.l, P y) → ∀ y ∈ (dropF m s f n i).1.l, P y
  | 0, s, n, i, h => h
  | m + 1, s, n, i, h => by
    cases hx : s.l[i]? with
    | none => rw [drop_end hx]; exact h
    | some x =>
      by_cases hp : x.file = f ∧ x.pins = 0
      · rw [drop_gone hx hp]; exact al_drop m _ _ _ (al_gone hx h)
      · rw [drop_stay hx hp]; exact al_drop m _ _ _ h
end
theorem findI_set : ∀ {l : List Slo} {f p : Int} {i : Nat} {x x' : Slo}, l[i]? = some x → x'.file = x.file → x'.pos = x.pos → findI (l.set i x') f p = findI l f p
  | [], f, p, i, x, x', h, _, _ => by simp at h
  | y :: l, f, p, 0, x, x', h, h1, h2 => by
    simp at h; subst h
    rw [List.set_cons_zero]
    unfold findI
    rw [h1, h2]
  | y :: l, f, p, i + 1, x, x', h, h1, h2 => by
    rw [List.set_cons_succ]
    unfold findI
    rw [findI_set (l := l) (by simpa using h) h1 h2]
theorem findI_app : ∀ {l : List Slo} {f p : Int} {x : Slo}, findI l f p = none → x.file = f → x.pos = p → findI (l ++ [x]) f p = some l.length
  | [], f, p, x, _, h1, h2 => findI_eq ⟨h1, h2⟩
  | y :: l, f, p, x, h, h1, h2 => by
    have hy : ¬ (y.file = f ∧ y.pos = p) := findI_none.1 h y List.mem_cons_self
    rw [findI_ne hy, Option.map_eq_none_iff] at h
    rw [List.cons_append, findI_ne hy, findI_app h h1 h2]; simp
/-- Got, and let loose. -/
theorem get_rel {s : Ca} {f p : Int} (hp : ∀ x ∈ s.l, 0 ≤ x.pins) : (getB s f p = none ∧ getS s f p = s ∧ findI s.l f p = none) ∨ ∃ i x, findI s.l f p = some i ∧ s.l[i]? = some x ∧ x.file = f ∧ x.pos = p ∧ getB s f p = some x.b ∧ getS s f p = { s with l := s.l.set i { x with pins := x.pins + 1, mark := true } } ∧ relS (getS s f p) f p = ({ s with l := s.l.set i { x with mark := true } }, true) := by
  cases hf : findI s.l f p with
  | none => exact .inl ⟨by unfold getB; rw [hf]; rfl, by unfold getS; rw [hf], rfl⟩
  | some i =>
    obtain ⟨x, hx, e1, e2⟩ := findI_some hf
    have eg : getS s f p = { s with l := s.l.set i { x with pins := x.pins + 1, mark := true } } := by unfold getS; rw [hf]; simp [hx]
    refine .inr ⟨i, x, rfl, hx, e1, e2, by unfold getB; rw [hf]; simp [hx], eg, ?_⟩
    have hlt := (List.getElem?_eq_some_iff.1 hx).1
    have hpx := hp x (List.mem_of_getElem? hx)
    rw [eg]
    unfold relS
    have h1 : findI (s.l.set i { x with pins := x.pins + 1, mark := true }) f p = some i := (findI_set (x' := { x with pins := x.pins + 1, mark := true }) hx rfl rfl).trans hf
    show (match findI (s.l.set i { x with pins := x.pins + 1, mark := true }) f p with
      | some j => _
      | none => _) = _
    rw [h1]
    have h2 : (s.l.set i { x with pins := x.pins + 1, mark := true })[i]? = some { x with pins := x.pins + 1, mark := true } := by rw [List.getElem?_set_self hlt]
    simp only [h2]
    rw [if_neg (by omega)]
    simp
/-! ### Memory -/
/-- A cache, all of whose blocks are new and none is frozen. -/
structure Fz (w w' : World) (cb N : Nat) (s : Ca) (F : Nat → Prop) : Prop where
  kp : Kp w w'
  st : ∃ S, (∀ z, S z → w.heap.size ≤ z ∧ z < w'.heap.size ∧ ¬ F z) ∧ Cs w' w.heap.size cb S s
  ok : Ok N s
  lt : ∀ j, F j → j < w'.heap.size
section
variable {α : Type} {Q : α → Prop} {n base cb N M : Nat} {w w' w1 w0 : World} {S T R F G : Nat → Prop} {s s' : Ca} {A B : Option Addr} {c m d : Nat} {f p k : Int} {bs : List Int}
theorem Fz.less (h : Fz w w' cb N s F) (hG : ∀ j, G j → F j) : Fz w w' cb N s G := by
  obtain ⟨k, ⟨S, h1, h2⟩, o, l⟩ := h
  exact ⟨k, ⟨S, fun z hz => ⟨(h1 z hz).1, (h1 z hz).2.1, fun hg => (h1 z hz).2.2 (hG z hg)⟩, h2⟩, o, fun j hj => l j (hG j hj)⟩
theorem Fz.up (h : Fz w w' cb N s F) (hM : N ≤ M) (hb : M ≤ 2 ^ 20) : Fz w w' cb M s F := ⟨h.kp, h.st, h.ok.up hM hb, h.lt⟩
/-- What is new otherwise is frozen. -/
theorem Fz.al (h : Fz w w' cb N s F) (hk : Kp w' w1) : Fz w w1 cb N s fun j => F j ∨ w'.heap.size ≤ j ∧ j < w1.heap.size := by
  obtain ⟨k, ⟨S, h1, h2⟩, o, l⟩ := h
  have hz := hk.size
  exact ⟨k.tr hk, ⟨S, fun z hz' => ⟨(h1 z hz').1, by have := (h1 z hz').2.1; omega, fun hg => by rcases hg with hg | hg; exact (h1 z hz').2.2 hg; have := (h1 z hz').2.1; omega⟩, h2.kp hk⟩, o, fun j hj => by rcases hj with hj | hj; have := l j hj; omega; omega⟩
theorem Fz.kp' (h : Fz w w' cb N s F) (hk : Kp w' w1) : Fz w w1 cb N s F := (h.al hk).less fun j hj => .inl hj
/-- A frozen block of the call's own is written. -/
theorem Fz.loc (h : Fz w w' cb N s F) (hg : Gx G w' w1) (hG : ∀ j, G j → F j ∧ w.heap.size ≤ j) : Fz w w1 cb N s F := by
  obtain ⟨k, ⟨S, h1, h2⟩, o, l⟩ := h
  have hz := hg.size
  exact ⟨k.tx hg fun j hj => (hG j hj).2, ⟨S, fun z hz' => ⟨(h1 z hz').1, by have := (h1 z hz').2.1; omega, (h1 z hz').2.2⟩, h2.gx hg fun j hj hg' => (h1 j hj).2.2 (hG j hg').1⟩, o, fun j hj => by have := l j hj; omega⟩
theorem Fz.get (h : Fz w w' cb N s F) (hN : N < 2 ^ 20) (hn : 2 ^ 60 < n) {H : List Value → World → Option α}
    (hf : ∀ B m d w1, Bv .u8 w1 B m d ((getB s f p).getD []) → Own .u8 5 w1 w'.heap.size (.slice B m d) ((getB s f p).getD []) → Fz w w1 cb (N + 1) (getS s f p) (fun j => F j ∨ On (.slice B m d) j) → Gx (fun j => ¬ F j) w' w1 → Rt (H [.slice B m d, .bool (getB s f p).isSome] w1) Q) :
    Rt (Big.cl (clock_Cache_Get n [pt cb, .int .i64 f, .int .i64 p] w') H) Q := by
  obtain ⟨k, ⟨S, h1, h2⟩, o, l⟩ := h
  refine Rt.cGet (Get_spec (f := f) (p := p) h2 o hn) fun B m d w1 b1 on1 o1 g1 c1 => ?_
  have hz := g1.size
  refine hf B m d w1 b1 o1 ⟨k.tx g1 fun z hz => (h1 z hz).1, ⟨S, fun z hz' => ⟨(h1 z hz').1, by have := (h1 z hz').2.1; omega, fun hg => ?_⟩, c1⟩, o.get hN, fun j hj => ?_⟩ (g1.wide fun j _ hj => (h1 j hj).2.2)
  · rcases hg with hg | hg
    · exact (h1 z hz').2.2 hg
    · have := on1 z hg; have := (h1 z hz').2.1; omega
  · rcases hj with hj | hj
    · have := l j hj; omega
    · exact (o1.lt j hj).2
theorem Fz.rel (h : Fz w w' cb N s F) (hn : 2 ^ 60 < n) {H : List Value → World → Option α} (hf : ∀ w1, Fz w w1 cb N (relS s f p).1 F → Gx (fun j => ¬ F j) w' w1 → Rt (H [.bool (relS s f p).2] w1) Q) : Rt (Big.cl (clock_Cache_Release n [pt cb, .int .i64 f, .int .i64 p] w') H) Q := by
  obtain ⟨k, ⟨S, h1, h2⟩, o, l⟩ := h
  refine Rt.cSt (Rel_spec (f := f) (p := p) h2 o hn) fun w1 g1 c1 => ?_
  have hz := g1.size
  exact hf w1 ⟨k.tx g1 fun z hz => (h1 z hz).1, ⟨S, fun z hz' => ⟨(h1 z hz').1, by have := (h1 z hz').2.1; omega, (h1 z hz').2.2⟩, c1⟩, o.rel, fun j hj => by have := l j hj; omega⟩ (g1.wide fun j _ hj => (h1 j hj).2.2)
theorem Fz.drop (h : Fz w w' cb N s F) (hn : 2 ^ 60 < n) {H : List Value → World → Option α} (hf : ∀ w1, Fz w w1 cb N (dropS n s f).1 F → Gx (fun j => ¬ F j) w' w1 → Rt (H [.int .i64 (dropS n s f).2] w1) Q) : Rt (Big.cl (clock_Cache_Drop n [pt cb, .int .i64 f] w') H) Q := by
  obtain ⟨k, ⟨S, h1, h2⟩, o, l⟩ := h
  refine Rt.cSt (Drop_spec (f := f) h2 o hn) fun w1 g1 c1 => ?_
  have hz := g1.size
  exact hf w1 ⟨k.tx g1 fun z hz => (h1 z hz).1, ⟨S, fun z hz' => ⟨(h1 z hz').1, by have := (h1 z hz').2.1; omega, (h1 z hz').2.2⟩, c1⟩, dropF_ok _ _ _ _ o, fun j hj => by have := l j hj; omega⟩ (g1.wide fun j _ hj => (h1 j hj).2.2)
theorem Fz.put (h : Fz w w' cb N s F) (hN : N < 2 ^ 20) (hB : Bv .u8 w B m d bs) (hm : m ≤ 2 ^ 20) (hn : 2 ^ 60 < n) {H : List Value → World → Option α} (hf : ∀ w1, Fz w w1 cb (N + 1) (putS n s f p bs).1 F → Gx (fun j => ¬ F j) w' w1 → Rt (H [.bool (putS n s f p bs).2] w1) Q) : Rt (Big.cl (clock_Cache_Put n [pt cb, .int .i64 f, .int .i64 p, .slice B m d] w') H) Q := by
  obtain ⟨k, ⟨S, h1, h2⟩, o, l⟩ := h
  have hbl := hB.len
  refine Rt.cPut (f := f) (p := p) h2 o hN (fun w2 g2 => hB.kp (k.tx g2 fun z hz => (h1 z hz).1)) hm k.size hn fun w1 S' g1 hs c1 => ?_
  have hz := g1.size
  refine hf w1 ⟨k.tx g1 fun z hz => (h1 z hz).1, ⟨S', fun z hz' => ⟨(hs z hz').2.1, (hs z hz').2.2, fun hF => ?_⟩, c1⟩, o.put hN (by omega), fun j hj => by have := l j hj; omega⟩ (g1.wide fun j _ hj => (h1 j hj).2.2)
  rcases (hs z hz').1 with e | e
  · exact (h1 z e).2.2 hF
  · have := l z hF; omega
theorem Fz.pins (h : Fz w w' cb N s F) (hn : 2 ^ 60 < n) : Rt (clock_Cache_Pins n [pt cb] w') (RI .i64 (pinsA s.l) w') := by
  obtain ⟨k, ⟨S, h1, h2⟩, o, l⟩ := h
  exact Pins_spec h2 o hn
theorem Fz.used (h : Fz w w' cb N s F) : Rt (clock_Cache_Used n [pt cb] w') (RI .i64 s.used w') := by
  obtain ⟨k, ⟨S, h1, h2⟩, o, l⟩ := h
  exact Used_spec h2
theorem and3 (x : Int) : ∃ k : Nat, k < 4 ∧ bits .and .i64 x 3 = (k : Int) := by
  have hb : (BitVec.ofInt 64 x &&& BitVec.ofInt 64 3).toNat ≤ 3 := by
    rw [BitVec.toNat_and]
    exact Nat.and_le_right
  refine ⟨(BitVec.ofInt 64 x &&& BitVec.ofInt 64 3).toNat, by omega, ?_⟩
  unfold bits
  simp only [IntKind.bits]
  show IntKind.i64.wrap (((BitVec.ofInt 64 x &&& BitVec.ofInt 64 3).toNat : Nat) : Int) = _
  exact i64_in _ (by omega)
/-! ### A row of actions -/
structure Act where
  way : Int
  file : Int
  pos : Int
  b : List Int
def acEl : El Act where
  sz := 4
  rd w vs x := ∃ B m d, vs = [.int .i64 x.way, .int .i64 x.file, .int .i64 x.pos, .slice B m d] ∧ Bv .u8 w B m d x.b
  kp := fun hk ⟨B, m, d, e, h⟩ => ⟨B, m, d, e, h.kp hk⟩
  one := fun {w vs x} ⟨B, m, d, e, h⟩ u hu => by subst e; simp only [List.mem_cons, List.not_mem_nil, or_false] at hu; rcases hu with rfl | rfl | rfl | rfl <;> rfl
theorem Rt.ixAc {l : Nat} {zs : List Act} (hs : SlE acEl w A l zs) {i : Int} (h0 : 0 ≤ i) (h1 : i < l) {g : Addr → Option α}
    (h : ∀ x a B m d, zs[i.toNat]? = some x → Bv .u8 w B m d x.b → w.cell? a = some (.int .i64 x.way) → w.cell? (a.add 1) = some (.int .i64 x.file) → w.cell? (a.add 2) = some (.int .i64 x.pos) → w.cell? (a.add 3) = some (.slice B m d) → Rt (g a) Q) : Rt (ixA A l i 4 g) Q := by
  refine Rt.ixe (E := acEl) hs rfl h0 h1 fun y a us e1 _ e3 e4 => ?_
  obtain ⟨B, m, d, rfl, hb⟩ := e3
  have c0 := e4 0 _ rfl
  rw [Addr.add_zero'] at c0
  exact h y a B m d e1 hb c0 (e4 1 _ rfl) (e4 2 _ rfl) (e4 3 _ rfl)
theorem Rt.ixR2 {b o l sz : Nat} {i : Int} {g : Addr → Option α} (h0 : 0 ≤ i) (h1 : i < l) (h : Rt (g ⟨b, o + i.toNat * sz, none⟩) Q) : Rt (ixR ⟨b, o, none⟩ l i sz g) Q := by
  rw [ixR_eq]
  unfold ixR0
  rw [if_pos ⟨h0, h1⟩, Addr.add_lit]; exact h
set_option maxRecDepth 100000 in
theorem ac_open {H : Type} {enc : TypeId × Value → H} {W : World} {base : Nat} {spare : Nat → Bool} {held : Bool} (n : Nat) (cs : List Value) (y : DataW H × List MemPlace) (h : DataW.trod enc Try.prog W base spare held n 56 cs = some y) : ∃ x, acEl.rd W cs x := by
  obtain ⟨hl, hg⟩ := st_open Try.underlying56 h
  have hl : cs.length = 4 := hl
  match cs, hl with
  | [c0, c1, c2, c3], _ =>
    obtain ⟨_, _, g0⟩ := hg 0 _ rfl
    obtain ⟨_, _, g1⟩ := hg 1 _ rfl
    obtain ⟨_, _, g2⟩ := hg 2 _ rfl
    obtain ⟨_, _, g3⟩ := hg 3 _ rfl
    obtain ⟨k0, e0, r0⟩ := int_open (k := .i64) Try.underlying3 g0
    obtain ⟨k1, e1, r1⟩ := int_open (k := .i64) Try.underlying3 g1
    obtain ⟨k2, e2, r2⟩ := int_open (k := .i64) Try.underlying3 g2
    obtain ⟨A, l, c, xs, e3, b3⟩ := bv_open (e := 5) (k := .u8) Try.underlying30 Try.underlying5 (by kernel_rfl) g3
    have f0 : c0 = Value.int .i64 k0 := (List.cons.inj (show [c0] = [Value.int .i64 k0] from e0)).1
    have f1 : c1 = Value.int .i64 k1 := (List.cons.inj (show [c1] = [Value.int .i64 k1] from e1)).1
    have f2 : c2 = Value.int .i64 k2 := (List.cons.inj (show [c2] = [Value.int .i64 k2] from e2)).1
    have f3 : c3 = Value.slice A l c := (List.cons.inj (show [c3] = [Value.slice A l c] from e3)).1
    clear e0 e1 e2 e3
    subst f0 f1 f2 f3
    exact ⟨⟨k0, k1, k2, xs⟩, A, l, c, rfl, b3⟩
end
end Go.Proofs.Ytdnbpgakmbamoaa.Ck
