/- Readings of bytes, put together of readings: what goes on when more stands behind, or when an end is cut off. -/
import Derived.Test.YtdnbpgakmbamoaaVP
namespace Go.Proofs.Ytdnbpgakmbamoaa.Par
open Go Big Go.RowKit Go.IntWalk Var Low
set_option linter.unusedVariables false
set_option linter.unusedSimpArgs false
set_option linter.unusedSectionVars false
/-- From a place on: an error (0: none), what is read, the place behind it. -/
abbrev Pa (α : Type) := List Int → Nat → Int × α × Nat
section
variable {α β : Type} [Inhabited α] [Inhabited β]
def retP (a : α) : Pa α := fun _ i => (0, a, i)
def failP (e : Int) : Pa α := fun _ _ => (e, default, 0)
def bindP (f : Pa α) (g : α → Pa β) : Pa β := fun xs i => if (f xs i).1 = 0 then g (f xs i).2.1 xs (f xs i).2.2 else ((f xs i).1, default, 0)
def numP : Pa Int := fun xs i => ((getR xs i).2.2, (getR xs i).1, (getR xs i).2.1.toNat)
def takeP (n : Nat) : Pa (List Int) := fun xs i => if xs.length < i + n then (4, [], 0) else (0, slc xs i n, i + n)
/-- What a reading that went well says of longer and of shorter rows. -/
structure Good (f : Pa α) : Prop where
  le : ∀ {xs i a j}, i ≤ xs.length → f xs i = (0, a, j) → i ≤ j ∧ j ≤ xs.length
  ext : ∀ {xs i a j}, i ≤ xs.length → f xs i = (0, a, j) → ∀ ys, f (xs ++ ys) i = (0, a, j)
  cut : ∀ {xs i a j}, i ≤ xs.length → f xs i = (0, a, j) → ∀ k, i ≤ k → k ≤ xs.length → (j ≤ k → f (xs.take k) i = (0, a, j)) ∧ (k < j → (f (xs.take k) i).1 = 4)
theorem triple {f : Pa α} {xs : List Int} {i : Nat} (h : (f xs i).1 = 0) : f xs i = (0, (f xs i).2.1, (f xs i).2.2) := by rw [← h]
theorem bindP_ok {f : Pa α} {g : α → Pa β} {xs : List Int} {i j : Nat} {b : β} : bindP f g xs i = (0, b, j) ↔ ∃ a m, f xs i = (0, a, m) ∧ g a xs m = (0, b, j) := by
  unfold bindP
  constructor
  · intro h
    split at h
    · rename_i h0; exact ⟨_, _, triple h0, h⟩
    · rename_i h0; injection h with h; exact absurd h h0
  · rintro ⟨a, m, h1, h2⟩
    rw [h1]; exact h2
theorem Good.ret (a : α) : Good (retP a) := by
  refine ⟨fun hi h => ?_, fun hi h ys => ?_, fun hi h k h1 h2 => ?_⟩ <;> simp only [retP, Prod.mk.injEq] at h ⊢ <;> obtain ⟨_, rfl, rfl⟩ := h
  · omega
  · simp
  · exact ⟨fun _ => by simp, fun h => by omega⟩
theorem Good.fail {e : Int} (h : e ≠ 0) : Good (failP e : Pa α) := by
  refine ⟨fun hi h' => ?_, fun hi h' ys => ?_, fun hi h' k h1 h2 => ?_⟩ <;> (simp only [failP, Prod.mk.injEq] at h'; exact absurd h'.1 h)
theorem Good.bind {f : Pa α} {g : α → Pa β} (hf : Good f) (hg : ∀ a, Good (g a)) : Good (bindP f g) := by
  refine ⟨fun {xs i b j} hi h => ?_, fun {xs i b j} hi h ys => ?_, fun {xs i b j} hi h k h1 h2 => ?_⟩ <;> obtain ⟨a, m, e1, e2⟩ := bindP_ok.1 h
  · have l1 := hf.le hi e1
    have l2 := (hg a).le l1.2 e2
    omega
  · have l1 := hf.le hi e1
    exact bindP_ok.2 ⟨a, m, hf.ext hi e1 ys, (hg a).ext l1.2 e2 ys⟩
  · have l1 := hf.le hi e1
    have l2 := (hg a).le l1.2 e2
    obtain ⟨c1, c2⟩ := hf.cut hi e1 k h1 h2
    by_cases hm : m ≤ k
    · obtain ⟨d1, d2⟩ := (hg a).cut l1.2 e2 k hm h2
      refine ⟨fun hj => bindP_ok.2 ⟨a, m, c1 hm, d1 hj⟩, fun hj => ?_⟩
      unfold bindP
      rw [c1 hm]
      exact d2 hj
    · refine ⟨fun hj => by omega, fun hj => ?_⟩
      have := c2 (by omega)
      unfold bindP
      rw [if_neg (by rw [this]; decide)]
      exact this
theorem Good.num : Good numP := by
  have key : ∀ {xs : List Int} {i : Nat} {a : Int} {j : Nat}, i ≤ xs.length → numP xs i = (0, a, j) → (getR xs (i : Int)).2.2 = 0 ∧ (getR xs (i : Int)).1 = a ∧ (getR xs (i : Int)).2.1 = (j : Int) ∧ i ≤ j ∧ j ≤ xs.length := by
    intro xs i a j hi h
    simp only [numP, Prod.mk.injEq] at h
    obtain ⟨h1, h2, h3⟩ := h
    have hin := getR_in h1
    have e : getR xs (i : Int) = gv (i : Int) 0 0 (xs.drop i) := by unfold getR; rw [if_neg (by omega), if_neg (by omega), Int.toNat_natCast]
    have h1' := h1
    rw [e] at h1'
    obtain ⟨m, g1, g2, g3, _⟩ := gv_to (i : Int) (xs.drop i) 0 0 h1'
    rw [List.length_drop] at g2
    rw [← e] at g3
    refine ⟨h1, h2, ?_, ?_, ?_⟩ <;> omega
  refine ⟨fun hi h => ?_, fun hi h ys => ?_, fun {xs i a j} hi h k h1 h2 => ?_⟩ <;> obtain ⟨e1, e2, e3, e4, e5⟩ := key hi h
  · exact ⟨e4, e5⟩
  · simp only [numP, getR_ext ys e1]; exact h
  · have := getR_cut e1 h1 h2
    rw [e3] at this
    refine ⟨fun hj => ?_, fun hj => ?_⟩
    · simp only [numP]; rw [this, if_pos (by omega)]; exact h
    · simp only [numP]; rw [this, if_neg (by omega)]
theorem Good.take (n : Nat) : Good (takeP n) := by
  have key : ∀ {xs : List Int} {i : Nat} {a : List Int} {j : Nat}, takeP n xs i = (0, a, j) → i + n ≤ xs.length ∧ a = slc xs i n ∧ j = i + n := by
    intro xs i a j h
    unfold takeP at h
    split at h
    · simp at h
    · simp only [Prod.mk.injEq] at h; exact ⟨by omega, h.2.1.symm, h.2.2.symm⟩
  refine ⟨fun hi h => ?_, fun hi h ys => ?_, fun {xs i a j} hi h k h1 h2 => ?_⟩ <;> obtain ⟨e1, rfl, rfl⟩ := key h
  · omega
  · unfold takeP
    rw [if_neg (by simp; omega)]
    simp only [slc, Prod.mk.injEq, true_and, and_true]
    rw [List.drop_append_of_le_length (by omega), List.take_append_of_le_length (by simp; omega)]
  · unfold takeP
    refine ⟨fun hj => ?_, fun hj => ?_⟩
    · rw [if_neg (by simp; omega)]
      simp only [slc, Prod.mk.injEq, true_and, and_true]
      rw [List.drop_take, List.take_take, Nat.min_eq_left (by omega)]
    · rw [if_pos (by simp; omega)]
theorem Good.ite {c : Prop} [Decidable c] {f g : Pa α} (hf : Good f) (hg : Good g) : Good (if c then f else g) := by split <;> assumption

/-! ### What is read was written so -/
/-- f reads a of bs, wherever it stands. -/
def Enc (f : Pa α) (a : α) (bs : List Int) : Prop := ∀ pre rest, f (pre ++ (bs ++ rest)) pre.length = (0, a, pre.length + bs.length)
theorem Enc.ret (a : α) : Enc (retP a) a [] := fun pre rest => rfl
theorem Enc.bind {f : Pa α} {g : α → Pa β} {a : α} {b : β} {bs cs : List Int} (hf : Enc f a bs) (hg : Enc (g a) b cs) : Enc (bindP f g) b (bs ++ cs) := fun pre rest => by
  refine bindP_ok.2 ⟨a, pre.length + bs.length, by rw [List.append_assoc]; exact hf pre (cs ++ rest), ?_⟩
  have := hg (pre ++ bs) rest
  rw [List.length_append, List.append_assoc] at this
  rw [List.append_assoc, List.length_append, this]
  simp only [Prod.mk.injEq, true_and]; omega
theorem Enc.num {x : Int} (h : 0 ≤ x ∧ x < 2 ^ 64) : Enc numP x (enc x.toNat) := fun pre rest => by
  have := getR_enc pre rest x.toNat (by omega)
  rw [List.append_assoc] at this
  simp only [numP, this, Prod.mk.injEq, true_and]
  omega
theorem Enc.take {n : Nat} {bs : List Int} (h : bs.length = n) : Enc (takeP n) bs bs := fun pre rest => by
  unfold takeP
  rw [if_neg (by simp; omega)]
  simp only [slc, Prod.mk.injEq, true_and]
  refine ⟨?_, by omega⟩
  rw [List.drop_left, ← h, List.take_left]
/-- What f reads stood so: E. -/
def Can (f : Pa α) (E : α → List Int → Prop) : Prop := ∀ xs i a j, (∀ z ∈ xs, (Lit.int .u8 z).wf = true) → i ≤ xs.length → f xs i = (0, a, j) → i ≤ j ∧ j ≤ xs.length ∧ E a (slc xs i (j - i))
theorem slc_split {xs : List Int} {i m j : Nat} (h1 : i ≤ m) (h2 : m ≤ j) : slc xs i (j - i) = slc xs i (m - i) ++ slc xs m (j - m) := by
  unfold slc
  rw [show j - i = (m - i) + (j - m) by omega, List.take_add, List.drop_drop, show i + (m - i) = m by omega]
theorem Can.bind {f : Pa α} {g : α → Pa β} {E : α → List Int → Prop} {F : β → List Int → Prop} (G : α → β → List Int → Prop) (hf : Can f E) (hg : ∀ a, Can (g a) (G a)) (h : ∀ a b p q, E a p → G a b q → F b (p ++ q)) : Can (bindP f g) F := by
  intro xs i b j hb hi hr
  obtain ⟨a, m, e1, e2⟩ := bindP_ok.1 hr
  obtain ⟨f1, f2, f3⟩ := hf xs i a m hb hi e1
  obtain ⟨g1, g2, g3⟩ := hg a xs m b j hb f2 e2
  refine ⟨by omega, g2, ?_⟩
  rw [slc_split f1 g1]
  exact h a b _ _ f3 g3
theorem Can.ret (a : α) : Can (retP a) fun b bs => b = a ∧ bs = [] := by
  intro xs i b j _ hi h
  simp only [retP, Prod.mk.injEq] at h
  obtain ⟨_, rfl, rfl⟩ := h
  exact ⟨Nat.le_refl _, hi, rfl, by simp [slc]⟩
theorem Can.fail {e : Int} (h : e ≠ 0) (E : α → List Int → Prop) : Can (failP e : Pa α) E := by
  intro xs i b j _ hi h'
  simp only [failP, Prod.mk.injEq] at h'
  exact absurd h'.1 h
theorem Can.num : Can numP fun x bs => (0 ≤ x ∧ x < 2 ^ 64) ∧ bs = enc x.toNat := by
  intro xs i a j hb hi h
  simp only [numP, Prod.mk.injEq] at h
  obtain ⟨h1, h2, h3⟩ := h
  obtain ⟨y, y1, y2, y3, y4⟩ := getR_can (u8b hb) h1
  rw [y2] at h2 h3
  simp only at h2 h3
  subst h2
  rw [Int.toNat_natCast] at h3
  subst h3
  refine ⟨by omega, y3, ⟨by omega, by omega⟩, ?_⟩
  rw [Nat.add_sub_cancel_left, Int.toNat_natCast]
  exact y4
theorem Can.take (n : Nat) : Can (takeP n) fun a bs => bs = a ∧ a.length = n ∧ ∀ z ∈ a, (Lit.int .u8 z).wf = true := by
  intro xs i a j hb hi h
  unfold takeP at h
  split at h
  · simp at h
  · simp only [Prod.mk.injEq] at h
    obtain ⟨_, rfl, rfl⟩ := h
    refine ⟨by omega, by omega, by rw [Nat.add_sub_cancel_left], by simp [slc]; omega, fun z hz => hb z (List.mem_of_mem_drop (List.mem_of_mem_take hz))⟩
theorem Can.ite {c : Prop} [Decidable c] {f g : Pa α} {E F G : α → List Int → Prop} (hf : Can f E) (hg : Can g F) (h1 : c → ∀ a p, E a p → G a p) (h2 : ¬c → ∀ a p, F a p → G a p) : Can (if c then f else g) G := by
  intro xs i a j hb hi h
  by_cases hc : c
  · rw [if_pos hc] at h
    obtain ⟨a1, a2, a3⟩ := hf xs i a j hb hi h
    exact ⟨a1, a2, h1 hc _ _ a3⟩
  · rw [if_neg hc] at h
    obtain ⟨a1, a2, a3⟩ := hg xs i a j hb hi h
    exact ⟨a1, a2, h2 hc _ _ a3⟩
theorem Can.mono {f : Pa α} {E F : α → List Int → Prop} (hf : Can f E) (h : ∀ a p, E a p → F a p) : Can f F := fun xs i a j hb hi hr => by
  obtain ⟨a1, a2, a3⟩ := hf xs i a j hb hi hr
  exact ⟨a1, a2, h _ _ a3⟩
/-- The whole row. -/
def allP (f : Pa α) (xs : List Int) : Int × α := if (f xs 0).1 ≠ 0 then ((f xs 0).1, default) else if (f xs 0).2.2 ≠ xs.length then (2, default) else (0, (f xs 0).2.1)
theorem allP_enc {f : Pa α} {a : α} {bs : List Int} (h : Enc f a bs) : allP f bs = (0, a) := by
  have := h [] []
  simp only [List.nil_append, List.append_nil, List.length_nil, Nat.zero_add] at this
  unfold allP
  rw [this]; simp
theorem allP_more {f : Pa α} {a : α} {bs more : List Int} (h : Enc f a bs) (hm : more ≠ []) : (allP f (bs ++ more)).1 = 2 := by
  have := h [] more
  simp only [List.nil_append, List.length_nil, Nat.zero_add] at this
  have hl : more.length ≠ 0 := fun h => hm (List.length_eq_zero_iff.1 h)
  unfold allP
  rw [this]
  simp only [ne_eq, not_true, if_false, List.length_append]
  rw [if_pos (by omega)]
theorem allP_cut {f : Pa α} (hg : Good f) {a : α} {bs : List Int} (h : Enc f a bs) {k : Nat} (hk : k < bs.length) : (allP f (bs.take k)).1 = 4 := by
  have h0 := h [] []
  simp only [List.nil_append, List.append_nil, List.length_nil, Nat.zero_add] at h0
  have := (hg.cut (Nat.zero_le _) h0 k (Nat.zero_le _) (by omega)).2 hk
  unfold allP
  rw [if_pos (by rw [this]; decide)]
  exact this
theorem allP_can {f : Pa α} {E : α → List Int → Prop} (hc : Can f E) {xs : List Int} (hb : ∀ z ∈ xs, (Lit.int .u8 z).wf = true) {a : α} (h : allP f xs = (0, a)) : E a xs := by
  unfold allP at h
  split at h
  · rename_i h0; injection h with h; exact absurd h h0
  · rename_i h0
    split at h
    · simp at h
    · rename_i h1
      have h0 : (f xs 0).1 = 0 := by simpa using h0
      have h1 : (f xs 0).2.2 = xs.length := by simpa using h1
      injection h with _ h
      have := (hc xs 0 _ _ hb (Nat.zero_le _) (triple h0)).2.2
      rw [h1, h] at this
      simpa [slc] using this
end
end Go.Proofs.Ytdnbpgakmbamoaa.Par
