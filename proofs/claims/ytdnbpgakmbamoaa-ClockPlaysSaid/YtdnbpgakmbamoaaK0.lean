/- A cache: what it is, and how it lies in memory. -/
import Derived.Test.YtdnbpgakmbamoaaM9
import Derived.Test.YtdnbpgakmbamoaaGC
namespace Go.Proofs.Ytdnbpgakmbamoaa.Ck
open Go Big Go.RowKit Go.IntWalk
set_option linter.unusedVariables false
set_option linter.unusedSimpArgs false
theorem slB : ∃ i, SlT Try.prog 30 5 .u8 i := slT (by kernel_rfl)
theorem conv : ConvB Try.prog 30 := fun a l c w => by kernel_rfl
theorem slP : ∃ i v, SlTE Try.prog 84 87 1 i v := slTE (by kernel_rfl)
structure Slo where
  file : Int
  pos : Int
  b : List Int
  pins : Int
  mark : Bool
structure Ca where
  room : Int
  used : Int
  l : List Slo
  hand : Nat
abbrev pt (b : Nat) : Value := .pointer (some ⟨b, 0, none⟩)
structure SlotOk (w : World) (base cb : Nat) (R : Nat → Prop) (row : Value) (g : Nat) (x : Slo) : Prop where
  lc : ∃ B d, Lc w g [.int .i64 x.file, .int .i64 x.pos, .slice B x.b.length d, .int .i64 x.pins, .bool x.mark] ∧ Stb (fun j => ¬ R j) (fun w => Bv .u8 w B x.b.length d x.b) w
  lo : base ≤ g
  nb : g ≠ cb
  nrow : ¬ On row g
  nR : ¬ R g
structure CaV (w : World) (base cb : Nat) (R : Nat → Prop) (A : Option Addr) (c : Nat) (gs : List Nat) (s : Ca) : Prop where
  lo : base ≤ cb
  lc : Lc w cb [.int .i64 s.room, .int .i64 s.used, .slice A gs.length c, .int .i64 (s.hand : Int)]
  row : OwnV 87 w base (.slice A gs.length c) (gs.map pt)
  len : gs.length = s.l.length
  nrow : ¬ On (.slice A gs.length c) cb
  nd : ∀ (i g : Nat) (x : Slo), gs[i]? = some g → s.l[i]? = some x → SlotOk w base cb R (.slice A gs.length c) g x
  inj : gs.Nodup
  rlo : ∀ j, R j → base ≤ j ∧ j < w.heap.size
  rb : ¬ R cb
  rrow : ∀ j, R j → ¬ On (.slice A gs.length c) j
def CaS (cb : Nat) (R : Nat → Prop) (A : Option Addr) (c : Nat) (gs : List Nat) (j : Nat) : Prop := j = cb ∨ On (.slice A gs.length c) j ∨ j ∈ gs ∨ R j
def Cs (w : World) (base cb : Nat) (S : Nat → Prop) (s : Ca) : Prop := ∃ R A c gs, CaV w base cb R A c gs s ∧ ∀ j, CaS cb R A c gs j → S j ∧ base ≤ j ∧ j < w.heap.size
section
variable {α : Type} {Q : α → Prop} {n base cb : Nat} {w w' w0 : World} {S T R : Nat → Prop} {s s' : Ca} {A : Option Addr} {c : Nat} {gs : List Nat}
theorem CaV.has (h : CaV w base cb R A c gs s) {i : Nat} {x : Slo} (hx : s.l[i]? = some x) : ∃ g, gs[i]? = some g ∧ SlotOk w base cb R (.slice A gs.length c) g x := by
  have hlt := (List.getElem?_eq_some_iff.1 hx).1
  have hg : gs[i]? = some (gs[i]'(by rw [h.len]; exact hlt)) := List.getElem?_eq_getElem _
  exact ⟨_, hg, h.nd i _ x hg hx⟩
theorem CaV.has' (h : CaV w base cb R A c gs s) {i g : Nat} (hg : gs[i]? = some g) : ∃ x, s.l[i]? = some x ∧ SlotOk w base cb R (.slice A gs.length c) g x := by
  have hlt := (List.getElem?_eq_some_iff.1 hg).1
  have hx : s.l[i]? = some (s.l[i]'(by rw [← h.len]; exact hlt)) := List.getElem?_eq_getElem _
  exact ⟨_, hx, h.nd i g _ hg hx⟩
theorem SlotOk.gx {row : Value} {g : Nat} {x : Slo} (h : SlotOk w base cb R row g x) (hg : Gx T w w') (h1 : ¬ T g) (h2 : ∀ j, R j → ¬ T j) : SlotOk w' base cb R row g x := by
  obtain ⟨B, d, a, b⟩ := h.lc
  exact ⟨⟨B, d, a.gx hg h1, b.on (hg.wide fun j _ hj hR => h2 j hR hj)⟩, h.lo, h.nb, h.nrow, h.nR⟩
theorem CaV.lt (h : CaV w base cb R A c gs s) {j : Nat} (hj : CaS cb R A c gs j) : base ≤ j ∧ j < w.heap.size := by
  rcases hj with rfl | hj | hj | hj
  · exact ⟨h.lo, h.lc.lt⟩
  · exact h.row.lt j hj
  · obtain ⟨i, hi⟩ := List.getElem?_of_mem hj
    obtain ⟨x, _, hd⟩ := h.has' hi
    obtain ⟨B, d, hl, _⟩ := hd.lc
    exact ⟨hd.lo, hl.lt⟩
  · exact h.rlo j hj
theorem CaV.gx (h : CaV w base cb R A c gs s) (hg : Gx T w w') (hn : ∀ j, CaS cb R A c gs j → ¬ T j) : CaV w' base cb R A c gs s :=
  ⟨h.lo, h.lc.gx hg (hn cb (.inl rfl)), h.row.gx hg fun j hj => hn j (.inr (.inl hj)), h.len, h.nrow, fun i g x hi hx => (h.nd i g x hi hx).gx hg (hn g (.inr (.inr (.inl (List.mem_of_getElem? hi))))) fun j hj => hn j (.inr (.inr (.inr hj))), h.inj, fun j hj => ⟨(h.rlo j hj).1, Nat.lt_of_lt_of_le (h.rlo j hj).2 hg.size⟩, h.rb, h.rrow⟩
theorem Cs.gx (h : Cs w base cb S s) (hg : Gx T w w') (hn : ∀ j, S j → ¬ T j) : Cs w' base cb S s := by
  obtain ⟨R, A, c, gs, h1, h2⟩ := h
  exact ⟨R, A, c, gs, h1.gx hg fun j hj => hn j (h2 j hj).1, fun j hj => ⟨(h2 j hj).1, (h2 j hj).2.1, Nat.lt_of_lt_of_le (h2 j hj).2.2 hg.size⟩⟩
theorem Cs.kp (h : Cs w base cb S s) (hk : Kp w w') : Cs w' base cb S s := h.gx (T := fun _ => False) hk.gx fun _ _ h => h
theorem CaV.cs (h : CaV w base cb R A c gs s) (hS : ∀ j, CaS cb R A c gs j → S j) : Cs w base cb S s := ⟨R, A, c, gs, h, fun j hj => ⟨hS j hj, h.lt hj⟩⟩
/-- The cache's own block turns. -/
theorem CaV.head (h : CaV w base cb R A c gs s) {room used : Int} {hand : Nat} (hg : Gx (fun k => k = cb) w w') (hl : Lc w' cb [.int .i64 room, .int .i64 used, .slice A gs.length c, .int .i64 (hand : Int)]) : CaV w' base cb R A c gs { s with room := room, used := used, hand := hand } :=
  ⟨h.lo, hl, h.row.gx hg fun j hj e => h.nrow (e ▸ hj), h.len, h.nrow, fun i g x hi hx => (h.nd i g x hi hx).gx hg (h.nd i g x hi hx).nb fun j hj e => h.rb (e ▸ hj), h.inj, fun j hj => ⟨(h.rlo j hj).1, Nat.lt_of_lt_of_le (h.rlo j hj).2 hg.size⟩, h.rb, h.rrow⟩
/-- A slot's block turns: its pins, its mark. -/
theorem CaV.slot (h : CaV w base cb R A c gs s) {i g : Nat} {x x' : Slo} (hi : gs[i]? = some g) (hx : s.l[i]? = some x) (hg : Gx (fun k => k = g) w w') (hl : ∀ B d, Lc w g [.int .i64 x.file, .int .i64 x.pos, .slice B x.b.length d, .int .i64 x.pins, .bool x.mark] → Lc w' g [.int .i64 x'.file, .int .i64 x'.pos, .slice B x.b.length d, .int .i64 x'.pins, .bool x'.mark]) (hb : x'.b = x.b) :
    CaV w' base cb R A c gs { s with l := s.l.set i x' } := by
  have hd := h.nd i g x hi hx
  refine ⟨h.lo, h.lc.gx hg fun e => hd.nb e.symm, h.row.gx hg fun j hj e => hd.nrow (e ▸ hj), by rw [h.len]; exact (List.length_set ..).symm, h.nrow, fun j g' y hj hy => ?_, h.inj, fun j hj => ⟨(h.rlo j hj).1, Nat.lt_of_lt_of_le (h.rlo j hj).2 hg.size⟩, h.rb, h.rrow⟩
  have hy : (s.l.set i x')[j]? = some y := hy
  by_cases hij : i = j
  · subst hij
    rw [List.getElem?_set_self (List.getElem?_eq_some_iff.1 hx).1] at hy
    injection hy with hy
    subst hy
    rw [hi] at hj
    injection hj with hj
    subst hj
    obtain ⟨B, d, a, b⟩ := hd.lc
    refine ⟨⟨B, d, by rw [hb]; exact hl B d a, ?_⟩, hd.lo, hd.nb, hd.nrow, hd.nR⟩
    rw [hb]
    exact b.on (hg.wide fun j _ e hR => hd.nR (e ▸ hR))
  · rw [List.getElem?_set_ne hij] at hy
    refine (h.nd j g' y hj hy).gx hg (fun e => ?_) fun j hj e => hd.nR (e ▸ hj)
    subst e
    obtain ⟨l1, r1⟩ := List.getElem?_eq_some_iff.1 hi
    obtain ⟨l2, r2⟩ := List.getElem?_eq_some_iff.1 hj
    have H := List.pairwise_iff_getElem.1 h.inj
    rcases Nat.lt_trichotomy i j with q | q | q
    · exact H i j l1 l2 q (r1.trans r2.symm)
    · exact hij q
    · exact H j i l2 l1 q (r2.trans r1.symm)
/-- The row of pointers: one is let go. -/
theorem CaV.erase (h : CaV w base cb R A c gs s) {i : Nat} (hi : i < gs.length) (hg : Gx (fun k => k = cb ∨ On (.slice A gs.length c) k) w w') (ho : OwnV 87 w' base (.slice A (gs.length - 1) c) ((gs.map pt).eraseIdx i)) (hon : ∀ k, On (.slice A (gs.length - 1) c) k → On (.slice A gs.length c) k) {used : Int} {hand : Nat}
    (hl : Lc w' cb [.int .i64 s.room, .int .i64 used, .slice A (gs.length - 1) c, .int .i64 (hand : Int)]) : CaV w' base cb R A c (gs.eraseIdx i) { s with used := used, hand := hand, l := s.l.eraseIdx i } := by
  have hel : (gs.eraseIdx i).length = gs.length - 1 := by rw [List.length_eraseIdx, if_pos hi]
  refine ⟨h.lo, by rw [hel]; exact hl, by rw [hel]; have : (gs.eraseIdx i).map pt = (gs.map pt).eraseIdx i := by rw [List.eraseIdx_eq_take_drop_succ, List.eraseIdx_eq_take_drop_succ, List.map_append, List.map_take, List.map_drop]
                                          rw [this]; exact ho, ?_, fun e => h.nrow (hon cb (by rw [hel] at e; exact e)), fun j g x hj hx => ?_, h.inj.sublist (List.eraseIdx_sublist ..), fun j hj => ⟨(h.rlo j hj).1, Nat.lt_of_lt_of_le (h.rlo j hj).2 hg.size⟩, h.rb, fun j hj e => h.rrow j hj (hon j (by rw [hel] at e; exact e))⟩
  · show (gs.eraseIdx i).length = (s.l.eraseIdx i).length
    rw [List.length_eraseIdx, List.length_eraseIdx, h.len]
  · have hx : (s.l.eraseIdx i)[j]? = some x := hx
    rw [List.getElem?_eraseIdx] at hj hx
    have key : ∀ j', gs[j']? = some g → s.l[j']? = some x → SlotOk w' base cb R (.slice A (gs.eraseIdx i).length c) g x := fun j' a b => by
      have hd := h.nd j' g x a b
      have := hd.gx hg (fun e => by rcases e with e | e; exact hd.nb e; exact hd.nrow e) fun j hj e => by rcases e with e | e; exact h.rb (e ▸ hj); exact h.rrow j hj e
      exact ⟨this.lc, this.lo, this.nb, fun e => this.nrow (hon g (by rw [hel] at e; exact e)), this.nR⟩
    split at hj
    · rw [if_pos ‹_›] at hx; exact key j hj hx
    · rw [if_neg ‹_›] at hx; exact key (j + 1) hj hx
/-- The row of pointers: one more. -/
theorem CaV.push (h : CaV w base cb R A c gs s) {A' : Option Addr} {c' g d : Nat} {B : Option Addr} {x : Slo} {used : Int} (hg : Gx (fun k => k = cb ∨ On (.slice A gs.length c) k) w w') (ho : OwnV 87 w' base (.slice A' (gs.length + 1) c') (gs.map pt ++ [pt g])) (hon : ∀ k, On (.slice A' (gs.length + 1) c') k → On (.slice A gs.length c) k ∨ w.heap.size ≤ k ∧ k ≠ g ∧ ¬ On (.slice B x.b.length d) k)
    (hl : Lc w' cb [.int .i64 s.room, .int .i64 used, .slice A' (gs.length + 1) c', .int .i64 (s.hand : Int)]) (hgl : w.heap.size ≤ g) (hgb : ¬ On (.slice B x.b.length d) g) (hlg : Lc w' g [.int .i64 x.file, .int .i64 x.pos, .slice B x.b.length d, .int .i64 x.pins, .bool x.mark]) (hB : Own .u8 5 w' base (.slice B x.b.length d) x.b) (hBr : ∀ z ∈ x.b, (Lit.int .u8 z).wf = true) (hBl : ∀ k, On (.slice B x.b.length d) k → w.heap.size ≤ k) :
    CaV w' base cb (fun j => R j ∨ On (.slice B x.b.length d) j) A' c' (gs ++ [g]) { s with used := used, l := s.l ++ [x] } := by
  have hel : (gs ++ [g]).length = gs.length + 1 := by rw [List.length_append]; rfl
  have hcb := h.lc.lt
  refine ⟨h.lo, by rw [hel]; exact hl, by rw [hel, List.map_append]; exact ho, ?_, fun e => ?_, fun i g' y hi hy => ?_, ?_, fun j hj => ?_, fun e => ?_, fun j hj e => ?_⟩
  · rw [hel]
    show _ = (s.l ++ [x]).length
    rw [List.length_append, h.len]; rfl
  · rw [hel] at e
    rcases hon cb e with e | e
    · exact h.nrow e
    · omega
  · have hy : (s.l ++ [x])[i]? = some y := hy
    rw [hel]
    by_cases hlt : i < gs.length
    · rw [List.getElem?_append_left hlt] at hi
      rw [List.getElem?_append_left (by rw [← h.len]; exact hlt)] at hy
      have hd := h.nd i g' y hi hy
      obtain ⟨B', d', a, b⟩ := hd.lc
      have hglt := a.lt
      have hd' := hd.gx hg (fun e => by rcases e with e | e; exact hd.nb e; exact hd.nrow e) fun j hj e => by rcases e with e | e; exact h.rb (e ▸ hj); exact h.rrow j hj e
      obtain ⟨B', d', a, b⟩ := hd'.lc
      refine ⟨⟨B', d', a, b.less fun k _ hk hR => hk (.inl hR)⟩, hd.lo, hd.nb, fun e => ?_, fun e => ?_⟩
      · rcases hon g' e with e | e
        · exact hd.nrow e
        · omega
      · rcases e with e | e
        · exact hd.nR e
        · have := hBl g' e; omega
    · have hi' := (List.getElem?_eq_some_iff.1 hi).1
      rw [hel] at hi'
      obtain rfl : i = gs.length := by omega
      rw [List.getElem?_append_right (Nat.le_refl _), Nat.sub_self] at hi
      rw [h.len, List.getElem?_append_right (Nat.le_refl _), Nat.sub_self] at hy
      injection hi with hi
      injection hy with hy
      subst hi hy
      refine ⟨⟨B, d, hlg, fun w2 hg2 => (hB.gx hg2 fun j hj e => e (.inr hj)).bv hBr⟩, by have := h.lo; omega, by omega, fun e => ?_, fun e => ?_⟩
      · rcases hon g e with e | e
        · have := (h.row.lt g e).2; omega
        · exact e.2.1 rfl
      · rcases e with e | e
        · have := (h.rlo g e).2; omega
        · exact hgb e
  · rw [List.nodup_append]
    refine ⟨h.inj, by simp, fun a ha b hb => ?_⟩
    simp at hb
    subst hb
    have := (h.lt (.inr (.inr (.inl ha)))).2
    omega
  · rcases hj with hj | hj
    · have := h.rlo j hj; have := hg.size; omega
    · exact hB.lt j hj
  · rcases e with e | e
    · exact h.rb e
    · have := hBl cb e; omega
  · rw [hel] at e
    rcases hj with hj | hj
    · rcases hon j e with e | e
      · exact h.rrow j hj e
      · have := (h.rlo j hj).2; omega
    · rcases hon j e with e | e
      · have := (h.row.lt j e).2; have := hBl j hj; omega
      · exact e.2.2 hj
/-- A slot of the row. -/
theorem Rt.ixSl (h : CaV w base cb R A c gs s) {i : Nat} {x : Slo} (hx : s.l[i]? = some x) {f : Addr → Option α}
    (hf : ∀ a g B d, gs[i]? = some g → SlotOk w base cb R (.slice A gs.length c) g x → w.cell? a = some (pt g) → Lc w g [.int .i64 x.file, .int .i64 x.pos, .slice B x.b.length d, .int .i64 x.pins, .bool x.mark] → Stb (fun j => ¬ R j) (fun w => Bv .u8 w B x.b.length d x.b) w → Rt (f a) Q) : Rt (ixA A gs.length (i : Int) 1 f) Q := by
  obtain ⟨g, hg, hd⟩ := h.has hx
  have hlt := (List.getElem?_eq_some_iff.1 hg).1
  refine Rt.ixV h.row (by omega) (by omega) fun a u hu hc => ?_
  rw [Int.toNat_natCast, List.getElem?_map, hg] at hu
  injection hu with hu
  subst hu
  obtain ⟨B, d, hl, hb⟩ := hd.lc
  exact hf a g B d hg hd hc hl hb
theorem Clone_spec {l : Nat} {bs : List Int} (hx : Bv .u8 w A l c bs) (hl : l ≤ 2 ^ 38) : Rt (bytes_Clone n [.slice A l c] w) (RO .u8 5 w bs) := by
  obtain ⟨t, hT⟩ := slB
  have hxl := hx.len
  rw [bytes_Clone_eq]
  cases A with
  | none =>
    obtain ⟨rfl, rfl⟩ := hx.nil rfl
    have : bs = [] := List.length_eq_zero_iff.1 hxl
    subst this
    exact Rt.fin (Rt.cT rfl (Rt.endO (Own.nil w _) (Nat.le_refl _) (Kp.rfl' w)))
  | some a =>
    refine Rt.fin (Rt.cF rfl (Rt.alo (k := .u8) [] 0 rfl rfl (by decide) fun w1 o1 k1 => ?_))
    refine Rt.app hT o1 (hx.kp k1).sl hx.nil (by simp; omega) k1.size fun C d w2 o2 hk2 _ hs2 => ?_
    (repeat (first | (with_reducible (first | refine Rt.fin ?_ | refine Rt.tL ?_ | refine Rt.tI ?_ | refine Rt.tB ?_ | refine Rt.tS ?_ | refine Rt.tP ?_ | refine Rt.tD ?_ | refine Rt.tM ?_ | refine Rt.tC ?_ | refine Rt.tN ?_ | refine Rt.tA ?_ | refine Rt.tG ?_ | refine Rt.tF ?_ | refine Rt.os ?_ | refine Rt.clS ?_ | refine Rt.jmN ?_ | refine Rt.jbN ?_ | refine Rt.jbE ?_)) | ((with_reducible (first | apply Rt.ld0 | apply Rt.ld1 | apply Rt.ld2 | apply Rt.ld3 | apply Rt.ld4 | apply Rt.ld5)); first | assumption | exact Lc.kp (by assumption) (by assumption)) | ((with_reducible apply Rt.ol); first | assumption | exact cell_kp (by assumption) (by assumption)) | ((with_reducible apply Rt.ckR); focus ((repeat (first | (with_reducible (first | refine Rt.fin ?_ | refine Rt.tL ?_ | refine Rt.tI ?_ | refine Rt.tB ?_ | refine Rt.tS ?_ | refine Rt.tP ?_ | refine Rt.tD ?_ | refine Rt.tM ?_ | refine Rt.tC ?_ | refine Rt.tN ?_ | refine Rt.tA ?_ | refine Rt.tG ?_ | refine Rt.tF ?_ | refine Rt.os ?_ | refine Rt.clS ?_ | refine Rt.jmN ?_ | refine Rt.jbN ?_ | refine Rt.jbE ?_)) | ((with_reducible (first | apply Rt.ld0 | apply Rt.ld1 | apply Rt.ld2 | apply Rt.ld3 | apply Rt.ld4 | apply Rt.ld5)); first | assumption | exact Lc.kp (by assumption) (by assumption)) | ((with_reducible apply Rt.ol); first | assumption | exact cell_kp (by assumption) (by assumption)))); exact Rt.some' rfl))))
    exact Rt.endO o2 (Nat.le_refl _) (hk2 w k1 (Nat.le_refl _))
end
end Go.Proofs.Ytdnbpgakmbamoaa.Ck
