/- Making and appending, as the readings meet them. -/
import Derived.Test.YtdcdgmiojlldaaaM0
import Derived.DataElems
namespace Go.Proofs.Ytdcdgmiojlldaaa.Big
open Go Go.RowKit
set_option linter.unusedVariables false
set_option linter.unusedSimpArgs false

def slTB (P : Program) (t e : TypeId) (k : IntKind) : Bool :=
  (match P.underlying t with | some (.slice e') => Nat.beq e' e | _ => false) &&
  (match P.info? e with
   | some i => Nat.beq i.size 1 && Nat.ble i.bytes 8 && (match i.zero with | some (.int k' n) => decide (k' = k) && decide (n = 0) | _ => false)
   | none => false)
structure SlT (P : Program) (t e : TypeId) (k : IntKind) (i : TypeInfo) : Prop where
  under : P.underlying t = some (.slice e)
  info : P.info? e = some i
  size : i.size = 1
  bytes : i.bytes ≤ 8
  zero : i.zero = some (.int k 0)
theorem slT {P : Program} {t e : TypeId} {k : IntKind} (h : slTB P t e k = true) : ∃ i, SlT P t e k i := by
  simp only [slTB, Bool.and_eq_true] at h
  obtain ⟨h1, h2⟩ := h
  split at h1
  · rename_i hu
    have := Nat.eq_of_beq_eq_true h1; subst this
    split at h2
    · rename_i i hi
      simp only [Bool.and_eq_true] at h2
      obtain ⟨⟨h3, h4⟩, h5⟩ := h2
      split at h5
      · rename_i k' n hz
        simp only [Bool.and_eq_true, decide_eq_true_eq] at h5
        obtain ⟨rfl, rfl⟩ := h5
        exact ⟨i, hu, hi, Nat.eq_of_beq_eq_true h3, Nat.le_of_ble_eq_true h4, hz⟩
      · cases h5
    · cases h2
  · cases h1
section
variable {P : Program} {t e : TypeId} {k : IntKind}
/-- A row of the call's own. -/
def Own (k : IntKind) (e : TypeId) (w : World) (base : Nat) (v : Value) (xs : List Int) : Prop := w.ownsRow base e 1 v xs.length (xs.map (.int k))
theorem Own.lt {w : World} {base : Nat} {v : Value} {xs : List Int} (h : Own k e w base v xs) : ∀ b, v.ownBlock = some b → base ≤ b ∧ b < w.heap.size := World.ownsRow.lt h
theorem Own.sl {w : World} {base : Nat} {A : Option Addr} {l c : Nat} {xs : List Int} (h : Own k e w base (.slice A l c) xs) : l = xs.length ∧ Sl k w A l xs := by
  have hl : l = xs.length := by
    rcases h.2 with ⟨h', hn⟩ | ⟨g, cap, cur, h', _⟩
    · injection h' with _ h2 _; omega
    · injection h' with _ h2 _
  refine ⟨hl, ?_⟩
  subst hl
  exact Sl.own h
theorem Own.slice {w : World} {base : Nat} {v : Value} {xs : List Int} (h : Own k e w base v xs) : ∃ A c, v = .slice A xs.length c := by
  rcases h.2 with ⟨h', hn⟩ | ⟨g, cap, cur, h', _⟩
  · exact ⟨none, 0, by rw [h', hn]⟩
  · exact ⟨_, _, h'⟩
theorem Own.kp {w w' : World} {base : Nat} {v : Value} {xs : List Int} (h : Own k e w base v xs) (hk : Kp w w') : Own k e w' base v xs := World.ownsRow.kept h hk.grown (by cases v.ownBlock <;> simp)
theorem Own.dr {w : World} {base : Nat} {v : Value} {xs : List Int} (h : Own k e w base v xs) : Own k e w.drew base v xs := h
theorem Own.mono {w : World} {base base' : Nat} {v : Value} {xs : List Int} (h : Own k e w base v xs) (hb : base' ≤ base) : Own k e w base' v xs := by
  refine ⟨h.1, h.2.imp id ?_⟩
  rintro ⟨g, cap, cur, h1, h2, h3⟩
  exact ⟨g, cap, cur, h1, by omega, h3⟩
theorem Own.kept {w w' : World} {base : Nat} {v : Value} {xs : List Int} {row : Option Nat} (h : Own k e w base v xs) (hg : w.grownBy w' row) (hne : v.ownBlock = none ∨ v.ownBlock ≠ row) : Own k e w' base v xs := World.ownsRow.kept h hg hne
theorem Own.nil (w : World) (base : Nat) : Own k e w base (.slice none 0 0) [] := World.ownsRow_nil w base e 1
theorem Own.lit (w : World) (xs : List Int) (hm : xs.length ≤ maxLen) : Own k e (w.alloc (.cells (xs.map (Value.int k)).toArray e)) w.heap.size (.slice (some ⟨w.heap.size, 0, none⟩) xs.length xs.length) xs := by
  have := World.ownsRow_lit (base := w.heap.size) (e := e) (size := 1) w (xs.map (Value.int k)).toArray xs.length (Nat.le_refl _) hm (by simp)
  unfold Own
  simpa using this
/-- A cut. -/
theorem Sl.cut {w : World} {A : Option Addr} {l c : Nat} {xs : List Int} (h : Sl k w A l xs) {lo hi : Int} (h0 : 0 ≤ lo) (h1 : lo ≤ hi) (h2 : hi ≤ l) (h3 : l ≤ c) :
    ∃ A', (∀ {α : Type} (f : Option Addr → Nat → Nat → Option α), cutS A c lo hi 1 f = f A' (hi.toNat - lo.toNat) (c - lo.toNat)) ∧ Sl k w A' (hi.toNat - lo.toNat) ((xs.take hi.toNat).drop lo.toNat) ∧ (A = none → A' = none) ∧ hi.toNat - lo.toNat ≤ c - lo.toNat := by
  refine ⟨_, fun f => by rw [cutS, if_pos ⟨h0, h1, by omega⟩], ⟨by simp [h.1]; omega, ?_⟩, fun hA => by subst hA; simp, by omega⟩
  rcases h.2 with hn | ⟨a, ha, hc⟩
  · left; rw [hn]; simp
  · subst ha
    by_cases hl : hi.toNat - lo.toNat = 0
    · left; apply List.length_eq_zero_iff.1; simp [h.1]; omega
    · right
      rw [if_neg (by omega)]
      refine ⟨_, rfl, fun i hi' => ?_⟩
      rw [Addr.add_add, Nat.mul_one, hc (lo.toNat + i) (by omega)]
      simp only [List.getD_eq_getElem?_getD, List.getElem?_drop, List.getElem?_take]
      rw [if_pos (by omega)]
/-- A slice that came in. -/
theorem came {w : World} {A : Option Addr} {l c : Nat} {zs : List Int} (h : (A = none ∧ l = 0 ∧ c = 0 ∧ zs = []) ∨
    ∃ x, A = some x ∧ l ≤ c ∧ c ≤ maxLen ∧ zs.length = c ∧ (∀ i, i < zs.length → w.cell? (x.add i) = some (.int k (zs.getD i 0))) ∧ ∀ n ∈ zs, (Lit.int k n).wf = true) :
    ∃ xs, Sl k w A l xs ∧ (A = none → l = 0 ∧ c = 0) ∧ (∀ x ∈ xs, (Lit.int k x).wf = true) ∧ l ≤ maxLen ∧ l ≤ c := by
  rcases h with ⟨rfl, rfl, rfl, rfl⟩ | ⟨x, rfl, h1, h2, h3, h4, h5⟩
  · exact ⟨[], Sl.nil .., fun _ => ⟨rfl, rfl⟩, by simp, Nat.zero_le _, Nat.le_refl _⟩
  · refine ⟨zs.take l, ⟨by simp; omega, .inr ⟨x, rfl, fun i hi => ?_⟩⟩, (fun h => by cases h), fun y hy => h5 y (List.mem_of_mem_take hy), by omega, h1⟩
    rw [h4 i (by omega)]
    simp only [List.getD_eq_getElem?_getD, List.getElem?_take, hi, if_true]
/-- A store into it. -/
theorem Own.store {w : World} {base : Nat} {A : Option Addr} {l c : Nat} {xs : List Int} (h : Own k e w base (.slice A l c) xs) {i : Int} (h0 : 0 ≤ i) (h1 : i < l) (x : Int) :
    ∃ a w', A = some a ∧ base ≤ a.block ∧ w' = w.setCell (a.add i.toNat) (.int k x) ∧ Own k e w' base (.slice A l c) (xs.set i.toNat x) ∧ w.grownBy w' (some a.block) ∧
      ∀ {α : Type} (f : World → Option α), (ixA A l i 1 fun a => stC w a (.int k x) f) = f w' := by
  obtain ⟨hl, hs⟩ := h.sl
  obtain ⟨a, rfl, hc⟩ := hs.at_ h0 h1
  rcases h.2 with ⟨h', _⟩ | ⟨g, cap, cur, h', hb, _⟩
  · injection h' with h'; cases h'
  · injection h' with h2 h3 h4
    injection h2 with h2; subst h2; subst h4
    have hst := World.ownsRow.stored (g := g) (n := xs.length) (cap := c) (by unfold Own at h; rw [hl] at h; exact h) i.toNat (.int k x)
    have hadd : (⟨g, 0, none⟩ : Addr).add i.toNat = ⟨g, i.toNat, none⟩ := by rw [Addr.add_lit, Nat.zero_add]
    refine ⟨_, _, rfl, hb, rfl, ?_, by rw [hadd]; exact hst.2, fun f => ?_⟩
    · unfold Own
      rw [hadd, List.map_set, List.length_set, hl]; exact hst.1
    · have hf : w.frozen? ((⟨g, 0, none⟩ : Addr).add i.toNat) = false := by
        rw [hadd]
        exact World.ownsRow.frozenAt (g := g) (n := xs.length) (cap := c) (by unfold Own at h; rw [hl] at h; exact h) _
      simp [ixA, h0, h1, stC, hc, opt_some, hf]
theorem make_run {i : TypeInfo} (hT : SlT P t e k i) (w : World) (n : Nat) (hn : n ≤ 2 ^ 40) :
    ∃ w', (∀ {α : Type} (f : Value → World → Option α), rn P (Instr.makeSlice t (.int .i64 (n : Int)) (.int .i64 (n : Int))) w f = f (.slice (some ⟨w.heap.size, 0, none⟩) n n) w') ∧
      Own k e w' w.heap.size (.slice (some ⟨w.heap.size, 0, none⟩) n n) (List.replicate n 0) ∧ Kp w w' := by
  obtain ⟨w', h1, h2, h3⟩ := run_make_full (P := P) w w.heap.size t e i (.int k 0) 1 hT.under hT.info hT.zero hT.size .i64 .i64 n
    (Nat.le_trans (Nat.mul_le_mul hT.bytes hn) (by decide)) (by simp only [maxLen]; omega) (Nat.le_refl _)
  refine ⟨w', fun f => by simp only [rn, h1], ?_, (Kp.rfl' w).gr h3 (by simp)⟩
  unfold Own
  have e1 : (madeCells (Value.int k 0).cells (n * 1)).toList = (List.replicate n (0 : Int)).map (.int k) := by
    have : (Value.int k 0).cells = #[.int k 0] := rfl
    rw [this, Nat.mul_one, toList_madeCells_one, List.map_replicate]
  rw [e1] at h2
  simpa using h2
theorem append_run {i : TypeInfo} (hT : SlT P t e k i) (w : World) (base : Nat) (ty : TypeId) {v : Value} {xs : List Int} (ho : Own k e w base v xs) {A : Option Addr} {m c : Nat} {ys : List Int} (hs : Sl k w A m ys) (hA : A = none → m = 0 ∧ c = 0)
    (hn : xs.length + m ≤ 2 ^ 40) (hb : base ≤ w.heap.size) :
    ∃ v' w', (∀ {α : Type} (f : Value → World → Option α), rn P (Builtin.append_ #[t, t] ty #[v, .slice A m c]) w f = f v' w') ∧ Own k e w' base v' (xs ++ ys) ∧ w.grownBy w' v.ownBlock ∧ (v'.ownBlock = v.ownBlock ∨ v'.ownBlock = some w.heap.size) := by
  cases A with
  | none =>
    obtain ⟨rfl, rfl⟩ := hA rfl
    have hys : ys = [] := List.length_eq_zero_iff.1 hs.1
    subst hys
    have hr := run_append_owned_none (P := P) w base t ty e i 1 hT.under hT.info v _ _ ho
    refine ⟨v, w, fun f => by simp only [rn, hr], by simpa using ho, ⟨rfl, rfl, rfl, Nat.le_refl _, fun _ _ _ => rfl⟩, .inl rfl⟩
  | some a =>
    have hnews : ∀ j u, (ys.map (Value.int k))[j]? = some u → w.cell? (a.add j) = some u := fun j u hj => by
      rw [List.getElem?_map] at hj
      rcases hs.2 with hn | ⟨a', ha, hc⟩
      · rw [hn] at hj; simp at hj
      · injection ha with ha; subst ha
        have hjl : j < ys.length := by
          rcases Nat.lt_or_ge j ys.length with h | h
          · exact h
          · rw [List.getElem?_eq_none h] at hj; cases hj
        rw [hc j (by rw [← hs.1]; exact hjl)]
        rw [List.getElem?_eq_getElem hjl] at hj
        injection hj with hj
        rw [← hj, List.getD_eq_getElem?_getD, List.getElem?_eq_getElem hjl]; rfl
    obtain ⟨v', w', h1, h2, h3, _, h5⟩ := run_append_own_at (P := P) w base t ty e i (.int k 0) 1 i.bytes hT.under hT.info hT.zero hT.size rfl rfl (by decide) v _ _ ho a m c (ys.map (.int k)) (by simp [hs.1]) hnews
      (by intro u hu; obtain ⟨x, _, rfl⟩ := List.mem_map.1 hu; rfl) (by simp only [maxLen]; omega) (Nat.le_trans (Nat.mul_le_mul hn hT.bytes) (by decide)) hb
    refine ⟨v', w', fun f => by simp only [rn, h1], ?_, h3, h5⟩
    unfold Own
    rw [List.map_append, List.length_append, hs.1]; exact h2
end
end Go.Proofs.Ytdcdgmiojlldaaa.Big
