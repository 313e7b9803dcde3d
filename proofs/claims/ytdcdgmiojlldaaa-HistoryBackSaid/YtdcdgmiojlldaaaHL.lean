/- History, plainly: what a state tells is one list; how long it is. -/
import Derived.Test.YtdcdgmiojlldaaaHK
namespace Go.Proofs.Ytdcdgmiojlldaaa.Hi
open Go Big Go.RowKit Go.IntWalk Go.Maps Go.WideShapes
set_option linter.unusedVariables false
set_option linter.unusedSimpArgs false
theorem sorted_ext : ∀ {l1 l2 : List KV}, (l1.Pairwise fun a b => Lt a.1 b.1) → (l2.Pairwise fun a b => Lt a.1 b.1) → (∀ q, q ∈ l1 ↔ q ∈ l2) → l1 = l2
  | [], [], _, _, _ => rfl
  | [], b :: l2, _, _, h => absurd ((h b).2 List.mem_cons_self) (by simp)
  | a :: l1, [], _, _, h => absurd ((h a).1 List.mem_cons_self) (by simp)
  | a :: l1, b :: l2, h1, h2, h => by
    obtain ⟨p1, p2⟩ := List.pairwise_cons.1 h1
    obtain ⟨q1, q2⟩ := List.pairwise_cons.1 h2
    have hab : a = b := by
      rcases List.mem_cons.1 ((h a).1 List.mem_cons_self) with e | e
      · exact e
      · rcases List.mem_cons.1 ((h b).2 List.mem_cons_self) with e' | e'
        · exact e'.symm
        · have := bl_trans (q1 a e) (p1 b e')
          rw [bl_irr] at this
          cases this
    subst hab
    have irr : ∀ x, Lt a.1 x → x ≠ a.1 := fun x hx e => by
      rw [e] at hx
      unfold Lt at hx
      rw [bl_irr] at hx
      cases hx
    rw [sorted_ext p2 q2 fun q => ?_]
    constructor
    · intro hq
      rcases List.mem_cons.1 ((h q).1 (List.mem_cons_of_mem _ hq)) with e | e
      · exact absurd (by rw [e]) (irr q.1 (p1 q hq))
      · exact e
    · intro hq
      rcases List.mem_cons.1 ((h q).2 (List.mem_cons_of_mem _ hq)) with e | e
      · exact absurd (by rw [e]) (irr q.1 (q1 q hq))
      · exact e
theorem Told.iff {f : List Int → Option (List Int)} {qs : List KV} (h : Told f qs) (q : KV) : q ∈ qs ↔ Bytes q.1 ∧ f q.1 = some q.2 := by
  refine ⟨h.mem q, fun ⟨h1, h2⟩ => ?_⟩
  obtain ⟨q', hq', e⟩ := List.mem_map.1 (h.all q.1 h1 (by rw [h2]; rfl))
  have h3 := (h.mem q' hq').2
  rw [e, h2] at h3
  have e2 := Option.some.inj h3
  have : q = q' := Prod.ext e.symm e2
  rw [this]; exact hq'
theorem told_uniq {f : List Int → Option (List Int)} {qs qs' : List KV} (h : Told f qs) (h' : Told f qs') : qs = qs' := sorted_ext h.up h'.up fun q => (h.iff q).trans (h'.iff q).symm
theorem opsF_mem {k v : List Int} : ∀ {ops : List OpD} {f : List Int → Option (List Int)}, opsF f ops k = some v → (∃ o ∈ ops, o.key = k ∧ o.val = v) ∨ f k = some v
  | [], f, h => .inr h
  | o :: ops, f, h => by
    rcases opsF_mem (ops := ops) (f := putF f o) h with ⟨o', h1, h2⟩ | h1
    · exact .inl ⟨o', List.mem_cons_of_mem _ h1, h2⟩
    · unfold putF at h1
      by_cases hk : k = o.key
      · rw [if_pos hk] at h1
        by_cases h1k : o.kind = 1
        · rw [if_pos h1k] at h1
          exact .inl ⟨o, List.mem_cons_self, hk.symm, Option.some.inj h1⟩
        · rw [if_neg h1k] at h1; cases h1
      · rw [if_neg hk] at h1
        exact .inr h1
theorem stF_mem {k v : List Int} : ∀ {X : List (List OpD)} {f : List Int → Option (List Int)}, X.foldl opsF f k = some v → (∃ ops ∈ X, ∃ o ∈ ops, o.key = k ∧ o.val = v) ∨ f k = some v
  | [], f, h => .inr h
  | ops :: X, f, h => by
    rcases stF_mem (X := X) (f := opsF f ops) h with ⟨ops', h1, h2⟩ | h1
    · exact .inl ⟨ops', List.mem_cons_of_mem _ h1, h2⟩
    · rcases opsF_mem h1 with h2 | h2
      · exact .inl ⟨ops, List.mem_cons_self, h2⟩
      · exact .inr h2
theorem nodup_len : ∀ {l m : List (List Int)}, l.Nodup → (∀ a ∈ l, a ∈ m) → l.length ≤ m.length
  | [], m, _, _ => Nat.zero_le _
  | a :: l, m, h, hs => by
    obtain ⟨h1, h2⟩ := List.nodup_cons.1 h
    have ha := hs a List.mem_cons_self
    have ih := nodup_len (l := l) (m := m.erase a) h2 fun b hb => (List.mem_erase_of_ne (show b ≠ a from fun e => h1 (by rw [← e]; exact hb))).2 (hs b (List.mem_cons_of_mem _ hb))
    rw [List.length_erase_of_mem ha] at ih
    have := List.length_pos_of_mem ha
    rw [List.length_cons]; omega
/-- As the law lets it in. -/
def Small (X : List (List OpD)) : Prop := X.length ≤ 15 ∧ ∀ ops ∈ X, ops.length ≤ 20 ∧ ∀ o ∈ ops, o.key.length ≤ 300 ∧ o.val.length ≤ 5000
theorem Small.fit {X : List (List OpD)} (h : Small X) : Fit X := ⟨by have := h.1; omega, fun ops ho => ⟨by have := (h.2 ops ho).1; omega, fun o hoo => by have := (h.2 ops ho).2 o hoo; omega⟩⟩
theorem Small.val {X : List (List OpD)} (h : Small X) : ∀ k v, stF X k = some v → v.length ≤ 2 ^ 20 := fun k v hv => by
  rcases stF_mem hv with ⟨ops, h1, o, h2, _, rfl⟩ | h1
  · have := ((h.2 ops h1).2 o h2).2; omega
  · cases h1
theorem keys_len : ∀ {X : List (List OpD)} {n : Nat}, (∀ ops ∈ X, ops.length ≤ n) → (X.flatMap fun ops => ops.map OpD.key).length ≤ X.length * n
  | [], n, _ => by simp
  | ops :: X, n, h => by
    have h1 := h ops List.mem_cons_self
    have h2 := keys_len (X := X) (n := n) fun o ho => h o (List.mem_cons_of_mem _ ho)
    rw [List.flatMap_cons, List.length_append, List.length_map, List.length_cons, Nat.add_mul]
    omega
theorem Small.card {X : List (List OpD)} (h : Small X) : ∀ qs : List KV, (qs.map Prod.fst).Nodup → (∀ q ∈ qs, Bytes q.1 ∧ stF X q.1 = some q.2) → qs.length ≤ 511 := fun qs hnd hm => by
  have h1 := nodup_len (m := X.flatMap fun ops => ops.map OpD.key) hnd fun k hk => by
    obtain ⟨q, hq, rfl⟩ := List.mem_map.1 hk
    rcases stF_mem (hm q hq).2 with ⟨ops, h1, o, h2, h3, _⟩ | h1
    · exact List.mem_flatMap.2 ⟨ops, h1, List.mem_map.2 ⟨o, h2, h3⟩⟩
    · cases h1
  have h2 := keys_len (X := X) (n := 20) fun ops ho => (h.2 ops ho).1
  have h3 : X.length * 20 ≤ 15 * 20 := Nat.mul_le_mul_right _ h.1
  rw [List.length_map] at h1
  omega
theorem filt_up {f : List Int → Option (List Int)} {fr to : List Int} {qs : List KV} (h : Told f qs) : (filt fr to qs).Pairwise fun a b => Lt a.1 b.1 := h.up.sublist List.filter_sublist
theorem pd_out {fr to : List Int} {q : KV} (h : pd fr to q = false) : Op.bytesLess (bts q.1) (bts fr) = false ∧ (0 < to.length → Op.bytesLess (bts q.1) (bts to) = true) := by
  unfold pd at h
  rw [Bool.or_eq_false_iff] at h
  obtain ⟨h1, h2⟩ := h
  rw [decide_eq_false_iff_not, cmp_neg] at h1
  refine ⟨by simpa using h1, fun hpos => ?_⟩
  rw [Bool.and_eq_false_iff] at h2
  rcases h2 with h2 | h2
  · rw [decide_eq_false_iff_not] at h2; exact absurd hpos h2
  · rw [decide_eq_false_iff_not] at h2
    exact (cmp_neg _ _).1 (by omega)
end Go.Proofs.Ytdcdgmiojlldaaa.Hi
