/- SkipSorts: the same entries in another order. -/
import Derived.Test.YtoilmnplocfipaaS11
namespace Go.Proofs.Ytoilmnplocfipaa.Sk
open Go Big Go.RowKit Go.IntWalk Ik
set_option linter.unusedVariables false
set_option linter.unusedSimpArgs false
theorem mem_cut {x : En} {ks : List (En × Nat)} {y : En × Nat} : y ∈ ks ↔ y ∈ ks.takeWhile (belA x.k) ∨ y ∈ ks.dropWhile (belA x.k) := by
  rw [← List.mem_append, List.takeWhile_append_dropWhile]
theorem putA_mem {x : En} {h : Nat} {ks : List (En × Nat)} {y : En × Nat} : y ∈ putA x h ks ↔ y = (x, h) ∨ y ∈ ks := by
  have hc := mem_cut (x := x) (ks := ks) (y := y)
  unfold putA
  rw [List.mem_append, List.mem_cons, hc]
  constructor
  · rintro (h | h | h)
    · exact .inr (.inl h)
    · exact .inl h
    · exact .inr (.inr h)
  · rintro (h | h | h)
    · exact .inr (.inl h)
    · exact .inl h
    · exact .inr (.inr h)
/-- The keys of a row. -/
def keysA (ks : List (En × Nat)) : List Key := ks.map fun y => y.1.k
theorem key_eq {a b : Key} (h : cmpK a b = 0) : a = b := by
  obtain ⟨h1, h2, h3⟩ := (cmpK_zero a b).1 h
  cases a; cases b
  simp only at h1 h2 h3
  subst h1 h2 h3; rfl
theorem insA_keys {x : En} {h : Int} {ks : List (En × Nat)} {k : Key} : k ∈ keysA (insA x h ks).2 ↔ (rightE x ∧ k = x.k) ∨ k ∈ keysA ks := by
  unfold keysA
  simp only [List.mem_map]
  unfold insA
  by_cases h1 : ¬ rightE x
  · rw [if_pos h1]
    exact ⟨.inr, fun h => h.elim (fun h => absurd h.1 h1) id⟩
  · rw [if_neg h1]
    have h1 : rightE x := Classical.not_not.1 h1
    by_cases h2 : ∃ y ∈ ks, cmpK y.1.k x.k = 0
    · rw [if_pos h2]
      refine ⟨.inr, fun h => h.elim (fun h => ?_) id⟩
      obtain ⟨y, hy, e⟩ := h2
      exact ⟨y, hy, by rw [h.2]; exact key_eq e⟩
    · rw [if_neg h2]
      constructor
      · rintro ⟨y, hy, e⟩
        rcases putA_mem.1 hy with rfl | hy
        · exact .inl ⟨h1, e.symm⟩
        · exact .inr ⟨y, hy, e⟩
      · rintro (⟨_, e⟩ | ⟨y, hy, e⟩)
        · exact ⟨_, putA_mem.2 (.inl rfl), e.symm⟩
        · exact ⟨y, putA_mem.2 (.inr hy), e⟩
/-- Entries that are put in by their places. -/
noncomputable def accP (xs : List En) (hs : List Int) (p : Nat → Nat) : Nat → List (En × Nat)
  | 0 => []
  | i + 1 => match xs[p i]?, hs[p i]? with
    | some x, some h => (insA x h (accP xs hs p i)).2
    | _, _ => accP xs hs p i
theorem accP_succ {xs : List En} {hs : List Int} {p : Nat → Nat} {i : Nat} {x : En} {h : Int} (h1 : xs[p i]? = some x) (h2 : hs[p i]? = some h) : accP xs hs p (i + 1) = (insA x h (accP xs hs p i)).2 := by
  show (match xs[p i]?, hs[p i]? with
    | some x, some h => (insA x h (accP xs hs p i)).2
    | _, _ => accP xs hs p i) = _
  rw [h1, h2]
theorem accP_len {xs : List En} {hs : List Int} {p : Nat → Nat} : ∀ i, (accP xs hs p i).length ≤ i
  | 0 => Nat.le_refl _
  | i + 1 => by
    have ih := accP_len (xs := xs) (hs := hs) (p := p) i
    cases h1 : xs[p i]? with
    | none => simp only [accP, h1]; omega
    | some x =>
      cases h2 : hs[p i]? with
      | none => simp only [accP, h1, h2]; omega
      | some h => rw [accP_succ h1 h2]; have := insA_len (x := x) (h := h) (ks := accP xs hs p i); omega
theorem accP_keys {xs : List En} {hs : List Int} {p : Nat → Nat} {k : Key} : ∀ i, (∀ j, j < i → p j < xs.length ∧ p j < hs.length) → (k ∈ keysA (accP xs hs p i) ↔ ∃ j x, j < i ∧ xs[p j]? = some x ∧ rightE x ∧ k = x.k)
  | 0, _ => ⟨fun h => by simp [accP, keysA] at h, fun ⟨j, x, h, _⟩ => absurd h (by omega)⟩
  | i + 1, hp => by
    obtain ⟨h1, h2⟩ := hp i (by omega)
    have e1 : xs[p i]? = some (xs[p i]'h1) := List.getElem?_eq_getElem _
    have e2 : hs[p i]? = some (hs[p i]'h2) := List.getElem?_eq_getElem _
    rw [accP_succ e1 e2, insA_keys, accP_keys i fun j hj => hp j (by omega)]
    constructor
    · rintro (⟨a, b⟩ | ⟨j, x, a, b⟩)
      · exact ⟨i, _, by omega, e1, a, b⟩
      · exact ⟨j, x, by omega, b⟩
    · rintro ⟨j, x, a, b, c, e⟩
      by_cases hj : j = i
      · subst hj
        rw [e1] at b; injection b with b; subst b
        exact .inl ⟨c, e⟩
      · exact .inr ⟨j, x, by omega, b, c, e⟩
def ltK (a b : Key) : Prop := cmpK a b < 0
theorem sorted_eq : ∀ {l l' : List Key}, l.Pairwise ltK → l'.Pairwise ltK → (∀ k, k ∈ l ↔ k ∈ l') → l = l'
  | [], [], _, _, _ => rfl
  | [], b :: l', _, _, h => by have := (h b).2 List.mem_cons_self; cases this
  | a :: l, [], _, _, h => by have := (h a).1 List.mem_cons_self; cases this
  | a :: l, b :: l', h1, h2, h => by
    obtain ⟨a1, a2⟩ := List.pairwise_cons.1 h1
    obtain ⟨b1, b2⟩ := List.pairwise_cons.1 h2
    have anti : ∀ {x y : Key}, ltK x y → ltK y x → False := fun {x y} h1 h2 => by
      have := cmpK_ltt h1 h2
      rw [cmpK_refl0] at this; omega
    have hab : a = b := by
      rcases List.mem_cons.1 ((h a).1 List.mem_cons_self) with e | e
      · exact e
      · rcases List.mem_cons.1 ((h b).2 List.mem_cons_self) with e' | e'
        · exact e'.symm
        · exact (anti (b1 a e) (a1 b e')).elim
    subst hab
    rw [sorted_eq a2 b2 fun k => ?_]
    constructor
    · intro hk
      rcases List.mem_cons.1 ((h k).1 (List.mem_cons_of_mem _ hk)) with e | e
      · subst e; exact (anti (a1 k hk) (a1 k hk)).elim
      · exact e
    · intro hk
      rcases List.mem_cons.1 ((h k).2 (List.mem_cons_of_mem _ hk)) with e | e
      · subst e; exact (anti (b1 k hk) (b1 k hk)).elim
      · exact e
theorem srt_keys {ks : List (En × Nat)} (h : srtA ks) : (keysA ks).Pairwise ltK := by
  unfold keysA
  rw [List.pairwise_map]; exact h
/-- The places from another one on, round. -/
def turnP (t l i : Nat) : Nat := (i + t) % l
theorem turn_keys {xs : List En} {hs : List Int} {l t : Nat} (hl : xs.length = l) (hm : l ≤ hs.length) (ht : t < l) (k : Key) : k ∈ keysA (accP xs hs id l) ↔ k ∈ keysA (accP xs hs (turnP t l) l) := by
  rw [accP_keys l fun j hj => ⟨by simp; omega, by simp; omega⟩, accP_keys l fun j hj => by have := Nat.mod_lt (j + t) (show 0 < l by omega); exact ⟨by unfold turnP; omega, by unfold turnP; omega⟩]
  constructor
  · rintro ⟨j, x, hj, e, r⟩
    have e : xs[j]? = some x := e
    by_cases h : t ≤ j
    · refine ⟨j - t, x, by omega, ?_, r⟩
      unfold turnP
      rw [show j - t + t = j by omega, Nat.mod_eq_of_lt hj]; exact e
    · refine ⟨j + l - t, x, by omega, ?_, r⟩
      unfold turnP
      rw [show j + l - t + t = j + l by omega, Nat.add_mod_right, Nat.mod_eq_of_lt hj]; exact e
  · rintro ⟨j, x, hj, e, r⟩
    exact ⟨turnP t l j, x, Nat.mod_lt _ (by omega), e, r⟩
/-! ### One level within the other -/
theorem level_sub (ks : List (En × Nat)) (i : Int) (h0 : 0 ≤ i) (h1 : i < 12) : (levelA (i + 1) ks).Sublist (levelA i ks) := by
  unfold levelA
  rw [if_pos (⟨h0, h1⟩ : 0 ≤ i ∧ i < 12)]
  by_cases h : i + 1 < 12
  · rw [if_pos (by omega)]
    refine List.Sublist.map _ ?_
    have : (ks.filter fun y => decide ((i + 1).toNat < y.2)) = (ks.filter fun y => decide (i.toNat < y.2)).filter fun y => decide ((i + 1).toNat < y.2) := by
      rw [List.filter_filter]
      refine List.filter_congr fun y _ => ?_
      by_cases hy : (i + 1).toNat < y.2
      · rw [decide_eq_true hy, decide_eq_true (by omega)]; rfl
      · rw [decide_eq_false hy]; rfl
    rw [this]
    exact List.filter_sublist
  · rw [if_neg (by omega)]
    exact List.nil_sublist _
open Classical in
/-- How many of the one are found in the other, in order. -/
noncomputable def eatE : List En → List En → List En
  | a, [] => a
  | [], _ => []
  | x :: a, y :: b => if x = y then eatE a b else eatE (x :: a) b
theorem eat_sub : ∀ {b a : List En}, a.Sublist b → eatE a b = []
  | [], a, h => by have := List.sublist_nil.1 h; subst this; rfl
  | y :: b, [], _ => rfl
  | y :: b, x :: a, h => by
    unfold eatE
    by_cases e : x = y
    · rw [if_pos e]
      subst e
      exact eat_sub (List.cons_sublist_cons.1 h)
    · rw [if_neg e]
      refine eat_sub ?_
      cases h with
      | cons _ h => exact h
      | cons_cons _ h => exact absurd rfl e
end Go.Proofs.Ytoilmnplocfipaa.Sk
