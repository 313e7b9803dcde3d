/- packed by slim.py -/
import Derived.Below
import Derived.IntWalk
import Derived.Maps.AppendAt
import Derived.Laws.OwnMore
import Derived.Test.YtdcdgmiojlldaaaDoorZP3
/- Memory, as the readings meet it: slices that are read; what stays. -/
namespace Go.Proofs.YtdcdgmiojlldaaaDoor.Big
open Go Go.RowKit
set_option linter.unusedVariables false
set_option linter.unusedSimpArgs false
abbrev Kp (w w' : World) : Prop := Below w.heap.size w w'
section
variable {w w1 w2 : World}
theorem Kp.rfl' (w : World) : Kp w w := Below.refl _ _
theorem Kp.tr (h : Kp w w1) (h' : Kp w1 w2) : Kp w w2 := Below.trans h (Below.mono h' h.size)
theorem Kp.dr (h : Kp w w1) : Kp w w1.drew := Below.drew h
theorem Kp.al (h : Kp w w1) (o : Obj) : Kp w (w1.alloc o) := Below.alloc h h.size o
theorem Kp.st (h : Kp w w1) {p : Addr} (hp : w.heap.size ≤ p.block) (u : Value) : Kp w (w1.setCell p u) := Below.setCell h hp u
theorem Kp.gr (h : Kp w w1) {row : Option Nat} (hg : w1.grownBy w2 row) (hr : ∀ k, row = some k → w.heap.size ≤ k) : Kp w w2 := Below.grown h hg h.size hr
theorem Kp.grown (h : Kp w w1) : w.grownBy w1 none := ⟨h.os, h.tape, h.output, h.size, fun k hk _ => h.block k hk⟩
end
section
variable {α : Type}
theorem cT {x : Bool} {a b : α} (h : x = true) : cond x a b = a := by rw [h]; rfl
theorem cF {x : Bool} {a b : α} (h : x = false) : cond x a b = b := by rw [h]; rfl
theorem cN {x y : Int} {a b : α} (h : x ≠ y) : cond (x == y) a b = b := cF (by simpa using h)
theorem cl1I {k : IntKind} {i : Int} {w : World} {f : Int → World → Option α} : (cl (some ([.int k i], w)) fun vs w => tC vs fun v cs => tI k v fun n => tN cs (f n w)) = f i w := by
  rw [cl_some, tC_mk, tI_mk, tN_mk]
theorem cl1B {i : Bool} {w : World} {f : Bool → World → Option α} : (cl (some ([.bool i], w)) fun vs w => tC vs fun v cs => tB v fun n => tN cs (f n w)) = f i w := rfl
theorem fin_ret (vs : List Value) (w : World) : fin (some ⟨.ret, vs, w⟩) = some (vs, w) := rfl
end
def Sl (k : IntKind) (w : World) (A : Option Addr) (l : Nat) (xs : List Int) : Prop :=
  xs.length = l ∧ (xs = [] ∨ ∃ a, A = some a ∧ ∀ i, i < l → w.cell? (a.add i) = some (.int k (xs.getD i 0)))
section
variable {k : IntKind} {w w' : World} {A : Option Addr} {l : Nat} {xs : List Int}
theorem Sl.nil (k : IntKind) (w : World) (A : Option Addr) : Sl k w A 0 [] := ⟨rfl, .inl rfl⟩
theorem Sl.kp (h : Sl k w A l xs) (hk : Kp w w') : Sl k w' A l xs := by
  refine ⟨h.1, h.2.imp id ?_⟩
  rintro ⟨a, ha, hc⟩
  refine ⟨a, ha, fun i hi => ?_⟩
  have := hc i hi
  rw [Below.cell hk (World.block_lt_of_cell? w _ this)]; exact this
theorem Sl.at_ (h : Sl k w A l xs) {i : Int} (h0 : 0 ≤ i) (h1 : i < l) : ∃ a, A = some a ∧ w.cell? (a.add i.toNat) = some (.int k (xs.getD i.toNat 0)) := by
  have hl : i.toNat < l := by omega
  rcases h.2 with hn | ⟨a, ha, hc⟩
  · have := h.1; rw [hn] at this; simp at this; omega
  · exact ⟨a, ha, hc _ hl⟩
theorem Sl.ix (h : Sl k w A l xs) {i : Int} (h0 : 0 ≤ i) (h1 : i < l) {α : Type} (f : Int → Option α) : (ixA A l i 1 fun a => opt (w.cell? a) fun v => tI k v f) = f (xs.getD i.toNat 0) := by
  obtain ⟨a, rfl, hc⟩ := h.at_ h0 h1
  simp [ixA, h0, h1, hc, opt_some, tI_mk]
theorem Sl.own {base : Nat} {e : TypeId} {c : Nat} (h : w.ownsRow base e 1 (.slice A l c) l (xs.map (.int k))) : Sl k w A l xs := by
  have hl : xs.length = l := by have := h.1; simpa using this
  refine ⟨hl, ?_⟩
  rcases h.2 with ⟨h', hn⟩ | ⟨g, cap, cur, h', _⟩
  · exact .inl (List.length_eq_zero_iff.1 (by omega))
  · injection h' with h1 h2 h3
    subst h1
    refine .inr ⟨_, rfl, fun i hi => ?_⟩
    have := h.cells (g := g) rfl i (.int k (xs.getD i 0)) (by simp [List.getElem?_map, List.getD_eq_getElem?_getD, hl, hi])
    exact this
end
end Go.Proofs.YtdcdgmiojlldaaaDoor.Big
/- Making and appending, as the readings meet them. -/
namespace Go.Proofs.YtdcdgmiojlldaaaDoor.Big
open Go Go.RowKit
set_option linter.unusedVariables false
set_option linter.unusedSimpArgs false
def slTB (P : Program) (t e : TypeId) (k : IntKind) : Bool :=
  (match P.underlying t with | some (.slice e') => Nat.beq e' e | _ => false) &&
  (match P.info? e with
   | some i => Nat.beq i.size 1 && Nat.ble i.bytes 8 && (match i.zero with | some (.int k' n) => decide (k' = k) && decide (n = 0) | _ => false)
   | none => false)
structure SlT (P : Program) (t e : TypeId) (k : IntKind) (i : TypeInfo) : Prop where
  under : P.underlying t = some (.slice e)
  info : P.info? e = some i
  size : i.size = 1
  bytes : i.bytes ≤ 8
  zero : i.zero = some (.int k 0)
theorem slT {P : Program} {t e : TypeId} {k : IntKind} (h : slTB P t e k = true) : ∃ i, SlT P t e k i := by
  simp only [slTB, Bool.and_eq_true] at h
  obtain ⟨h1, h2⟩ := h
  split at h1
  · rename_i hu
    have := Nat.eq_of_beq_eq_true h1; subst this
    split at h2
    · rename_i i hi
      simp only [Bool.and_eq_true] at h2
      obtain ⟨⟨h3, h4⟩, h5⟩ := h2
      split at h5
      · rename_i k' n hz
        simp only [Bool.and_eq_true, decide_eq_true_eq] at h5
        obtain ⟨rfl, rfl⟩ := h5
        exact ⟨i, hu, hi, Nat.eq_of_beq_eq_true h3, Nat.le_of_ble_eq_true h4, hz⟩
      · cases h5
    · cases h2
  · cases h1
section
variable {P : Program} {t e : TypeId} {k : IntKind}
def Own (k : IntKind) (e : TypeId) (w : World) (base : Nat) (v : Value) (xs : List Int) : Prop := w.ownsRow base e 1 v xs.length (xs.map (.int k))
theorem Own.lt {w : World} {base : Nat} {v : Value} {xs : List Int} (h : Own k e w base v xs) : ∀ b, v.ownBlock = some b → base ≤ b ∧ b < w.heap.size := World.ownsRow.lt h
theorem Own.sl {w : World} {base : Nat} {A : Option Addr} {l c : Nat} {xs : List Int} (h : Own k e w base (.slice A l c) xs) : l = xs.length ∧ Sl k w A l xs := by
  have hl : l = xs.length := by
    rcases h.2 with ⟨h', hn⟩ | ⟨g, cap, cur, h', _⟩
    · injection h' with _ h2 _; omega
    · injection h' with _ h2 _
  refine ⟨hl, ?_⟩
  subst hl
  exact Sl.own h
theorem Own.slice {w : World} {base : Nat} {v : Value} {xs : List Int} (h : Own k e w base v xs) : ∃ A c, v = .slice A xs.length c := by
  rcases h.2 with ⟨h', hn⟩ | ⟨g, cap, cur, h', _⟩
  · exact ⟨none, 0, by rw [h', hn]⟩
  · exact ⟨_, _, h'⟩
theorem Own.kp {w w' : World} {base : Nat} {v : Value} {xs : List Int} (h : Own k e w base v xs) (hk : Kp w w') : Own k e w' base v xs := World.ownsRow.kept h hk.grown (by cases v.ownBlock <;> simp)
theorem Own.dr {w : World} {base : Nat} {v : Value} {xs : List Int} (h : Own k e w base v xs) : Own k e w.drew base v xs := h
theorem Own.mono {w : World} {base base' : Nat} {v : Value} {xs : List Int} (h : Own k e w base v xs) (hb : base' ≤ base) : Own k e w base' v xs := by
  refine ⟨h.1, h.2.imp id ?_⟩
  rintro ⟨g, cap, cur, h1, h2, h3⟩
  exact ⟨g, cap, cur, h1, by omega, h3⟩
theorem Own.nil (w : World) (base : Nat) : Own k e w base (.slice none 0 0) [] := World.ownsRow_nil w base e 1
theorem Own.lit (w : World) (xs : List Int) (hm : xs.length ≤ maxLen) : Own k e (w.alloc (.cells (xs.map (Value.int k)).toArray e)) w.heap.size (.slice (some ⟨w.heap.size, 0, none⟩) xs.length xs.length) xs := by
  have := World.ownsRow_lit (base := w.heap.size) (e := e) (size := 1) w (xs.map (Value.int k)).toArray xs.length (Nat.le_refl _) hm (by simp)
  unfold Own
  simpa using this
theorem Sl.cut {w : World} {A : Option Addr} {l c : Nat} {xs : List Int} (h : Sl k w A l xs) {lo hi : Int} (h0 : 0 ≤ lo) (h1 : lo ≤ hi) (h2 : hi ≤ l) (h3 : l ≤ c) :
    ∃ A', (∀ {α : Type} (f : Option Addr → Nat → Nat → Option α), cutS A c lo hi 1 f = f A' (hi.toNat - lo.toNat) (c - lo.toNat)) ∧ Sl k w A' (hi.toNat - lo.toNat) ((xs.take hi.toNat).drop lo.toNat) ∧ (A = none → A' = none) ∧ hi.toNat - lo.toNat ≤ c - lo.toNat := by
  refine ⟨_, fun f => by rw [cutS, if_pos ⟨h0, h1, by omega⟩], ⟨by simp [h.1]; omega, ?_⟩, fun hA => by subst hA; simp, by omega⟩
  rcases h.2 with hn | ⟨a, ha, hc⟩
  · left; rw [hn]; simp
  · subst ha
    by_cases hl : hi.toNat - lo.toNat = 0
    · left; apply List.length_eq_zero_iff.1; simp [h.1]; omega
    · right
      rw [if_neg (by omega)]
      refine ⟨_, rfl, fun i hi' => ?_⟩
      rw [Addr.add_add, Nat.mul_one, hc (lo.toNat + i) (by omega)]
      simp only [List.getD_eq_getElem?_getD, List.getElem?_drop, List.getElem?_take]
      rw [if_pos (by omega)]
theorem Own.store {w : World} {base : Nat} {A : Option Addr} {l c : Nat} {xs : List Int} (h : Own k e w base (.slice A l c) xs) {i : Int} (h0 : 0 ≤ i) (h1 : i < l) (x : Int) :
    ∃ a w', A = some a ∧ base ≤ a.block ∧ w' = w.setCell (a.add i.toNat) (.int k x) ∧ Own k e w' base (.slice A l c) (xs.set i.toNat x) ∧ w.grownBy w' (some a.block) ∧
      ∀ {α : Type} (f : World → Option α), (ixA A l i 1 fun a => stC w a (.int k x) f) = f w' := by
  obtain ⟨hl, hs⟩ := h.sl
  obtain ⟨a, rfl, hc⟩ := hs.at_ h0 h1
  rcases h.2 with ⟨h', _⟩ | ⟨g, cap, cur, h', hb, _⟩
  · injection h' with h'; cases h'
  · injection h' with h2 h3 h4
    injection h2 with h2; subst h2; subst h4
    have hst := World.ownsRow.stored (g := g) (n := xs.length) (cap := c) (by unfold Own at h; rw [hl] at h; exact h) i.toNat (.int k x)
    have hadd : (⟨g, 0, none⟩ : Addr).add i.toNat = ⟨g, i.toNat, none⟩ := by rw [Addr.add_lit, Nat.zero_add]
    refine ⟨_, _, rfl, hb, rfl, ?_, by rw [hadd]; exact hst.2, fun f => ?_⟩
    · unfold Own
      rw [hadd, List.map_set, List.length_set, hl]; exact hst.1
    · have hf : w.frozen? ((⟨g, 0, none⟩ : Addr).add i.toNat) = false := by
        rw [hadd]
        exact World.ownsRow.frozenAt (g := g) (n := xs.length) (cap := c) (by unfold Own at h; rw [hl] at h; exact h) _
      simp [ixA, h0, h1, stC, hc, opt_some, hf]
theorem make_run {i : TypeInfo} (hT : SlT P t e k i) (w : World) (n : Nat) (hn : n ≤ 2 ^ 40) :
    ∃ w', (∀ {α : Type} (f : Value → World → Option α), rn P (Instr.makeSlice t (.int .i64 (n : Int)) (.int .i64 (n : Int))) w f = f (.slice (some ⟨w.heap.size, 0, none⟩) n n) w') ∧
      Own k e w' w.heap.size (.slice (some ⟨w.heap.size, 0, none⟩) n n) (List.replicate n 0) ∧ Kp w w' := by
  obtain ⟨w', h1, h2, h3⟩ := run_make_full (P := P) w w.heap.size t e i (.int k 0) 1 hT.under hT.info hT.zero hT.size .i64 .i64 n
    (Nat.le_trans (Nat.mul_le_mul hT.bytes hn) (by decide)) (by simp only [maxLen]; omega) (Nat.le_refl _)
  refine ⟨w', fun f => by simp only [rn, h1], ?_, (Kp.rfl' w).gr h3 (by simp)⟩
  unfold Own
  have e1 : (madeCells (Value.int k 0).cells (n * 1)).toList = (List.replicate n (0 : Int)).map (.int k) := by
    have : (Value.int k 0).cells = #[.int k 0] := rfl
    rw [this, Nat.mul_one, toList_madeCells_one, List.map_replicate]
  rw [e1] at h2
  simpa using h2
theorem append_run {i : TypeInfo} (hT : SlT P t e k i) (w : World) (base : Nat) (ty : TypeId) {v : Value} {xs : List Int} (ho : Own k e w base v xs) {A : Option Addr} {m c : Nat} {ys : List Int} (hs : Sl k w A m ys) (hA : A = none → m = 0 ∧ c = 0)
    (hn : xs.length + m ≤ 2 ^ 40) (hb : base ≤ w.heap.size) :
    ∃ v' w', (∀ {α : Type} (f : Value → World → Option α), rn P (Builtin.append_ #[t, t] ty #[v, .slice A m c]) w f = f v' w') ∧ Own k e w' base v' (xs ++ ys) ∧ w.grownBy w' v.ownBlock ∧ (v'.ownBlock = v.ownBlock ∨ v'.ownBlock = some w.heap.size) := by
  cases A with
  | none =>
    obtain ⟨rfl, rfl⟩ := hA rfl
    have hys : ys = [] := List.length_eq_zero_iff.1 hs.1
    subst hys
    have hr := run_append_owned_none (P := P) w base t ty e i 1 hT.under hT.info v _ _ ho
    refine ⟨v, w, fun f => by simp only [rn, hr], by simpa using ho, ⟨rfl, rfl, rfl, Nat.le_refl _, fun _ _ _ => rfl⟩, .inl rfl⟩
  | some a =>
    have hnews : ∀ j u, (ys.map (Value.int k))[j]? = some u → w.cell? (a.add j) = some u := fun j u hj => by
      rw [List.getElem?_map] at hj
      rcases hs.2 with hn | ⟨a', ha, hc⟩
      · rw [hn] at hj; simp at hj
      · injection ha with ha; subst ha
        have hjl : j < ys.length := by
          rcases Nat.lt_or_ge j ys.length with h | h
          · exact h
          · rw [List.getElem?_eq_none h] at hj; cases hj
        rw [hc j (by rw [← hs.1]; exact hjl)]
        rw [List.getElem?_eq_getElem hjl] at hj
        injection hj with hj
        rw [← hj, List.getD_eq_getElem?_getD, List.getElem?_eq_getElem hjl]; rfl
    obtain ⟨v', w', h1, h2, h3, _, h5⟩ := run_append_own_at (P := P) w base t ty e i (.int k 0) 1 i.bytes hT.under hT.info hT.zero hT.size rfl rfl (by decide) v _ _ ho a m c (ys.map (.int k)) (by simp [hs.1]) hnews
      (by intro u hu; obtain ⟨x, _, rfl⟩ := List.mem_map.1 hu; rfl) (by simp only [maxLen]; omega) (Nat.le_trans (Nat.mul_le_mul hn hT.bytes) (by decide)) hb
    refine ⟨v', w', fun f => by simp only [rn, h1], ?_, h3, h5⟩
    unfold Own
    rw [List.map_append, List.length_append, hs.1]; exact h2
end
end Go.Proofs.YtdcdgmiojlldaaaDoor.Big
/- What may turn: a set of blocks; rows of structs that are read, and rows of the call's own. -/
namespace Go.Proofs.YtdcdgmiojlldaaaDoor.Big
open Go Go.RowKit
set_option linter.unusedVariables false
set_option linter.unusedSimpArgs false
structure Gx (S : Nat → Prop) (w w' : World) : Prop where
  os : w'.os = w.os
  tape : w'.tape = w.tape
  output : w'.output = w.output
  size : w.heap.size ≤ w'.heap.size
  block : ∀ k, k < w.heap.size → ¬ S k → w'.heap[k]? = w.heap[k]?
abbrev On (v : Value) : Nat → Prop := fun k => v.ownBlock = some k
section
variable {S S' : Nat → Prop} {w w1 w2 : World}
theorem Gx.rfl' (S : Nat → Prop) (w : World) : Gx S w w := ⟨rfl, rfl, rfl, Nat.le_refl _, fun _ _ _ => rfl⟩
theorem Gx.tr' (h : Gx S w w1) (h' : Gx S' w1 w2) (hs : ∀ k, k < w.heap.size → S' k → S k) : Gx S w w2 :=
  ⟨h'.os.trans h.os, h'.tape.trans h.tape, h'.output.trans h.output, Nat.le_trans h.size h'.size,
    fun k hk hn => (h'.block k (Nat.lt_of_lt_of_le hk h.size) (fun x => hn (hs k hk x))).trans (h.block k hk hn)⟩
theorem Gx.tr (h : Gx S w w1) (h' : Gx S w1 w2) : Gx S w w2 := h.tr' h' fun _ _ x => x
theorem Gx.wide (h : Gx S w w1) (hs : ∀ k, k < w.heap.size → S k → S' k) : Gx S' w w1 :=
  ⟨h.os, h.tape, h.output, h.size, fun k hk hn => h.block k hk fun x => hn (hs k hk x)⟩
theorem Kp.gx (h : Kp w w1) : Gx S w w1 := ⟨h.os, h.tape, h.output, h.size, fun k hk _ => h.block k hk⟩
theorem Gx.kp (h : Gx S w w1) (hs : ∀ k, S k → w.heap.size ≤ k) : Kp w w1 :=
  ⟨h.os, h.tape, h.output, h.size, fun k hk => h.block k hk fun x => by have := hs k x; omega⟩
theorem Kp.tx (h : Kp w w1) (h' : Gx S w1 w2) (hs : ∀ k, S k → w.heap.size ≤ k) : Kp w w2 :=
  (h.gx (S := S)).tr h' |>.kp hs
theorem Gx.dr (h : Gx S w w1) : Gx S w w1.drew := ⟨h.os, h.tape, h.output, h.size, h.block⟩
theorem Gx.st (h : Gx S w w1) {a : Addr} (ha : a.block < w.heap.size → S a.block) (v : Value) : Gx S w (w1.setCell a v) :=
  h.tr' (S' := fun k => k = a.block) ⟨rfl, rfl, rfl, by simp [World.setCell], fun k _ hk => Below.heap_setCell _ _ _ _ hk⟩ fun k hk e => by subst e; exact ha hk
theorem Gx.gr (h : Gx S w w1) {row : Option Nat} (hg : w1.grownBy w2 row) (hs : ∀ k, k < w.heap.size → row = some k → S k) : Gx S w w2 :=
  h.tr' (S' := fun k => row = some k) ⟨hg.os, hg.tape, hg.output, hg.size, fun k hk hn => hg.block k hk fun e => hn e.symm⟩ hs
theorem Gx.of_grown {row : Option Nat} (hg : w.grownBy w1 row) : Gx (fun k => row = some k) w w1 := (Gx.rfl' _ w).gr hg fun _ _ e => e
theorem Gx.cell (h : Gx S w w1) {a : Addr} {v : Value} (hc : w.cell? a = some v) (hn : ¬ S a.block) : w1.cell? a = some v := by
  rw [World.cell?_of_block (w := w) (h.block _ (World.block_lt_of_cell? w _ hc) hn)]; exact hc
def Stb (S : Nat → Prop) (R : World → Prop) (w : World) : Prop := ∀ w', Gx S w w' → R w'
theorem Stb.out {R : World → Prop} (h : Stb S R w) : R w := h w (Gx.rfl' S w)
theorem Stb.on {R : World → Prop} (h : Stb S R w) (hg : Gx S w w1) : Stb S R w1 := fun w' h' => h w' (hg.tr h')
theorem Stb.less {R : World → Prop} (h : Stb S R w) (hs : ∀ k, k < w.heap.size → S' k → S k) : Stb S' R w := fun w' h' => h w' (h'.wide hs)
theorem Stb.kp {R : World → Prop} (h : Stb S R w) (hg : Kp w w1) : Stb S R w1 := h.on hg.gx
end
theorem Sl.gx {k : IntKind} {S : Nat → Prop} {w w' : World} {A : Option Addr} {l : Nat} {xs : List Int} (h : Sl k w A l xs) (hg : Gx S w w') (hn : ∀ a, A = some a → ¬ S a.block) : Sl k w' A l xs := by
  refine ⟨h.1, h.2.imp id ?_⟩
  rintro ⟨a, rfl, hc⟩
  exact ⟨a, rfl, fun i hi => hg.cell (hc i hi) (by have e : (a.add i).block = a.block := by (unfold Addr.add; split <;> rfl)
                                                   rw [e]; exact hn a rfl)⟩
structure El (α : Type) where
  sz : Nat
  rd : World → List Value → α → Prop
  kp : ∀ {w w' : World} {vs : List Value} {x : α}, Kp w w' → rd w vs x → rd w' vs x
  one : ∀ {w : World} {vs : List Value} {x : α}, rd w vs x → ∀ u ∈ vs, u.oneCell' = true
section
variable {α : Type} {E : El α} {w w' : World} {vs us : List Value} {xs ys : List α}
def Rows (E : El α) (w : World) : List Value → List α → Prop
  | vs, [] => vs = []
  | vs, x :: xs => ∃ a b, vs = a ++ b ∧ a.length = E.sz ∧ E.rd w a x ∧ Rows E w b xs
theorem Rows.len : ∀ {xs : List α} {vs : List Value}, Rows E w vs xs → vs.length = xs.length * E.sz
  | [], vs, h => by have h : vs = [] := h; subst h; simp
  | x :: xs, vs, h => by
    obtain ⟨a, b, rfl, h1, _, h2⟩ := h
    rw [List.length_append, h1, Rows.len h2, List.length_cons, Nat.add_mul, Nat.one_mul, Nat.add_comm]
theorem Rows.map {E' : El α} {w' : World} (hz : E'.sz = E.sz) (hf : ∀ a x, E.rd w a x → E'.rd w' a x) : ∀ {xs : List α} {vs : List Value}, Rows E w vs xs → Rows E' w' vs xs
  | [], vs, h => h
  | x :: xs, vs, h => by
    obtain ⟨a, b, rfl, h1, h2, h3⟩ := h
    exact ⟨a, b, rfl, h1.trans hz.symm, hf _ _ h2, Rows.map hz hf h3⟩
theorem Rows.ones : ∀ {xs : List α} {vs : List Value}, Rows E w vs xs → ∀ u ∈ vs, u.oneCell' = true
  | [], vs, h, u, hu => by have h : vs = [] := h; subst h; cases hu
  | x :: xs, vs, h, u, hu => by
    obtain ⟨a, b, rfl, h1, h2, h3⟩ := h
    rcases List.mem_append.1 hu with h | h
    · exact E.one h2 u h
    · exact Rows.ones h3 u h
theorem Rows.kp (h : Rows E w vs xs) (hk : Kp w w') : Rows E w' vs xs := h.map rfl fun _ _ => E.kp hk
theorem Rows.app : ∀ {xs : List α} {vs : List Value}, Rows E w vs xs → Rows E w us ys → Rows E w (vs ++ us) (xs ++ ys)
  | [], vs, h, h' => by have h : vs = [] := h; subst h; exact h'
  | x :: xs, vs, h, h' => by
    obtain ⟨a, b, rfl, h1, h2, h3⟩ := h
    exact ⟨a, b ++ us, by simp, h1, h2, Rows.app h3 h'⟩
theorem Rows.one {x : α} (h : E.rd w vs x) (hl : vs.length = E.sz) : Rows E w vs [x] := ⟨vs, [], by simp, hl, h, rfl⟩
theorem Rows.at_ : ∀ {xs : List α} {vs : List Value} {i : Nat}, Rows E w vs xs → i < xs.length → ∃ x a, xs[i]? = some x ∧ a.length = E.sz ∧ E.rd w a x ∧ ∀ j u, a[j]? = some u → vs[i * E.sz + j]? = some u
  | [], vs, i, h, hi => by simp at hi
  | x :: xs, vs, i, h, hi => by
    obtain ⟨a, b, rfl, h1, h2, h3⟩ := h
    cases i with
    | zero => exact ⟨x, a, rfl, h1, h2, fun j u hu => by rw [Nat.zero_mul, Nat.zero_add]; exact List.getElem?_append_left (List.getElem?_eq_some_iff.1 hu).1 ▸ hu⟩
    | succ i =>
      obtain ⟨y, c, h4, h5, h6, h7⟩ := Rows.at_ h3 (by simpa using hi)
      refine ⟨y, c, by simpa using h4, h5, h6, fun j u hu => ?_⟩
      rw [List.getElem?_append_right (by rw [h1, Nat.add_mul, Nat.one_mul]; omega), h1, show (i + 1) * E.sz + j - E.sz = i * E.sz + j by rw [Nat.add_mul, Nat.one_mul]; omega]
      exact h7 j u hu
def SlE (E : El α) (w : World) (A : Option Addr) (l : Nat) (xs : List α) : Prop :=
  xs.length = l ∧ (xs = [] ∨ ∃ a vs, A = some a ∧ Rows E w vs xs ∧ ∀ j v, vs[j]? = some v → w.cell? (a.add j) = some v)
variable {A : Option Addr} {l c : Nat}
theorem SlE.nil (w : World) (A : Option Addr) : SlE E w A 0 [] := ⟨rfl, .inl rfl⟩
theorem SlE.kp (h : SlE E w A l xs) (hk : Kp w w') : SlE E w' A l xs := by
  refine ⟨h.1, h.2.imp id ?_⟩
  rintro ⟨a, vs, rfl, hr, hc⟩
  exact ⟨a, vs, rfl, hr.kp hk, fun j v hj => by
    have := hc j v hj
    rw [Below.cell hk (World.block_lt_of_cell? w _ this)]; exact this⟩
theorem SlE.at_ (h : SlE E w A l xs) {i : Int} (h0 : 0 ≤ i) (h1 : i < l) : ∃ x a us, xs[i.toNat]? = some x ∧ (∀ {β : Type} (f : Addr → Option β), ixA A l i E.sz f = f a) ∧ us.length = E.sz ∧ E.rd w us x ∧ ∀ j u, us[j]? = some u → w.cell? (a.add j) = some u := by
  have hl := h.1
  have hi : i.toNat < xs.length := by omega
  rcases h.2 with hn | ⟨a, vs, rfl, hr, hc⟩
  · subst hn; simp at hi
  · obtain ⟨x, us, h2, h3, h4, h5⟩ := hr.at_ hi
    exact ⟨x, a.add (i.toNat * E.sz), us, h2, fun f => by simp [ixA, h0, h1], h3, h4, fun j u hu => by rw [Addr.add_add]; exact hc _ _ (h5 j u hu)⟩
def slTEB (P : Program) (t e : TypeId) (z : Nat) : Bool :=
  (match P.underlying t with | some (.slice e') => Nat.beq e' e | _ => false) &&
  (match P.info? e with
   | some i => Nat.beq i.size z && Nat.ble i.bytes (8 * z + 64) && (match i.zero with | some v => Nat.beq v.cells.size z | _ => false)
   | none => false) && Nat.blt 0 z && Nat.ble z 64
structure SlTE (P : Program) (t e : TypeId) (z : Nat) (i : TypeInfo) (v : Value) : Prop where
  under : P.underlying t = some (.slice e)
  info : P.info? e = some i
  size : i.size = z
  bytes : i.bytes ≤ 1024
  zero : i.zero = some v
  cells : v.cells.size = z
  pos : 0 < z
theorem slTE {P : Program} {t e : TypeId} {z : Nat} (h : slTEB P t e z = true) : ∃ i v, SlTE P t e z i v := by
  simp only [slTEB, Bool.and_eq_true] at h
  obtain ⟨⟨⟨h1, h2⟩, h3⟩, h4⟩ := h
  split at h1
  · rename_i hu
    have := Nat.eq_of_beq_eq_true h1; subst this
    split at h2
    · rename_i i hi
      simp only [Bool.and_eq_true] at h2
      obtain ⟨⟨h5, h6⟩, h7⟩ := h2
      split at h7
      · rename_i v hz
        exact ⟨i, v, hu, hi, Nat.eq_of_beq_eq_true h5, by have := Nat.le_of_ble_eq_true h6; have := Nat.le_of_ble_eq_true h4; omega, hz, Nat.eq_of_beq_eq_true h7, Nat.le_of_ble_eq_true h3⟩
      · cases h7
    · cases h2
  · cases h1
variable {e : TypeId} {base : Nat} {v : Value}
def OwnE (E : El α) (e : TypeId) (w : World) (base : Nat) (v : Value) (xs : List α) : Prop :=
  ∃ vs, w.ownsRow base e E.sz v xs.length vs ∧ Stb (On v) (fun w => Rows E w vs xs) w
theorem OwnE.lt (h : OwnE E e w base v xs) : ∀ b, v.ownBlock = some b → base ≤ b ∧ b < w.heap.size := by
  obtain ⟨vs, h, _⟩ := h; exact World.ownsRow.lt h
theorem OwnE.slice (h : OwnE E e w base v xs) : ∃ A c, v = .slice A xs.length c ∧ (A = none → xs.length = 0 ∧ c = 0) ∧ xs.length ≤ c := by
  obtain ⟨vs, h, _⟩ := h
  rcases h.2 with ⟨h', hn⟩ | ⟨g, cap, cur, h', _, _, h4, _⟩
  · exact ⟨none, 0, by rw [h', hn], fun _ => ⟨hn, rfl⟩, by omega⟩
  · exact ⟨_, _, h', (fun h => by cases h), h4⟩
theorem OwnE.sl (h : OwnE E e w base (.slice A l c) xs) : l = xs.length ∧ SlE E w A l xs := by
  obtain ⟨vs, h, hs⟩ := h
  have hl : l = xs.length := by
    rcases h.2 with ⟨h', hn⟩ | ⟨g, cap, cur, h', _⟩
    · injection h' with _ h2 _; omega
    · injection h' with _ h2 _
  subst hl
  refine ⟨rfl, rfl, ?_⟩
  rcases h.2 with ⟨h', hn⟩ | ⟨g, cap, cur, h', _⟩
  · exact .inl (List.length_eq_zero_iff.1 hn)
  · injection h' with h1 h2 h3
    subst h1
    exact .inr ⟨_, vs, rfl, hs.out, fun j u hj => h.cells (g := g) rfl j u hj⟩
theorem OwnE.kp (h : OwnE E e w base v xs) (hk : Kp w w') : OwnE E e w' base v xs := by
  obtain ⟨vs, h, hs⟩ := h
  exact ⟨vs, World.ownsRow.kept h hk.grown (by cases v.ownBlock <;> simp), hs.kp hk⟩
theorem OwnE.mono {base' : Nat} (h : OwnE E e w base v xs) (hb : base' ≤ base) : OwnE E e w base' v xs := by
  obtain ⟨vs, h, hs⟩ := h
  refine ⟨vs, ⟨h.1, h.2.imp id ?_⟩, hs⟩
  rintro ⟨g, cap, cur, h1, h2, h3⟩
  exact ⟨g, cap, cur, h1, by omega, h3⟩
theorem OwnE.nil (w : World) (base : Nat) : OwnE E e w base (.slice none 0 0) [] := ⟨[], World.ownsRow_nil w base e E.sz, fun _ _ => rfl⟩
theorem append_runE {P : Program} {t : TypeId} {i : TypeInfo} {z : Value} (hT : SlTE P t e E.sz i z) (ty : TypeId) (ho : OwnE E e w base v xs) {m : Nat} {ys : List α} {news : List Value}
    (hl : ys.length = m) (hA : A = none → m = 0 ∧ c = 0) (hc : ∀ a, A = some a → ∀ j u, news[j]? = some u → w.cell? (a.add j) = some u) (hone : ∀ u ∈ news, u.oneCell' = true) (hr : Stb (On v) (fun w => Rows E w news ys) w)
    (hn : xs.length + m ≤ 2 ^ 36) (hb : base ≤ w.heap.size) :
    ∃ v' w', (∀ {β : Type} (f : Value → World → Option β), rn P (Builtin.append_ #[t, t] ty #[v, .slice A m c]) w f = f v' w') ∧ OwnE E e w' base v' (xs ++ ys) ∧ w.grownBy w' v.ownBlock ∧ (v'.ownBlock = v.ownBlock ∨ v'.ownBlock = some w.heap.size) := by
  obtain ⟨vs, ho, hs⟩ := ho
  cases A with
  | none =>
    obtain ⟨rfl, rfl⟩ := hA rfl
    have hys : ys = [] := List.length_eq_zero_iff.1 hl
    subst hys
    have hr' := run_append_owned_none (P := P) w base t ty e i E.sz hT.under hT.info v _ _ ho
    refine ⟨v, w, fun f => by simp only [rn, hr'], by rw [List.append_nil]; exact ⟨vs, ho, hs⟩, ⟨rfl, rfl, rfl, Nat.le_refl _, fun _ _ _ => rfl⟩, .inl rfl⟩
  | some a =>
    have hbytes : (xs.length + m) * i.bytes ≤ 140737488355328 := Nat.le_trans (Nat.mul_le_mul hn hT.bytes) (by decide)
    obtain ⟨v', w', h1, h2, h3, _, h5⟩ := run_append_own_at (P := P) w base t ty e i z E.sz i.bytes hT.under hT.info hT.zero hT.size rfl hT.cells hT.pos v _ _ ho a m c news (by rw [hr.out.len, hl]) (hc a rfl)
      hone (by simp only [maxLen]; omega) hbytes hb
    refine ⟨v', w', fun f => by simp only [rn, h1], ⟨vs ++ news, by rw [List.length_append, hl]; exact h2, fun w2 hw2 => ?_⟩, h3, h5⟩
    have hg : Gx (On v) w w' := Gx.of_grown h3
    have hg2 : Gx (On v) w w2 := hg.tr' hw2 fun k hk e => by
      rcases h5 with h5 | h5
      · have e : v'.ownBlock = some k := e
        rw [h5] at e; exact e
      · have e : v'.ownBlock = some k := e
        rw [h5] at e; injection e with e; omega
    exact (hs _ hg2).app (hr _ hg2)
end
end Go.Proofs.YtdcdgmiojlldaaaDoor.Big
