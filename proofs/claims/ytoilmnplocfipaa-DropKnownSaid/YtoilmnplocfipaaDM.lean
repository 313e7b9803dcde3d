/- Drop, the plain law: what stays is what stays again; without snapshots the first of each key stays. -/
import Derived.Test.YtoilmnplocfipaaD1
namespace Go.Proofs.Ytoilmnplocfipaa.Dr
open Go Big Ik
set_option linter.unusedVariables false
set_option linter.unusedSimpArgs false
/-! ### The order -/
theorem cmpK_lt_trans {x y z : Key} (h1 : cmpK x y < 0) (h2 : cmpK y z < 0) : cmpK x z < 0 := by
  have h := cmpK_trans (x := x) (y := y) (z := z) (by omega) (by omega)
  rcases cmpK_tri x z with e | e | e
  · omega
  · exfalso
    have e1 := (cmpK_zero x z).1 e
    have : x = z := by cases x; cases z; simp_all
    subst this
    have := cmpK_anti x y
    omega
  · omega
theorem rising_pair : ∀ {l : List En}, risingE l ↔ l.Pairwise fun x y => cmpK x.k y.k < 0
  | [] => by simp [risingE]
  | [a] => by simp [risingE]
  | a :: b :: l => by
    have ih := @rising_pair (b :: l)
    unfold risingE
    rw [ih, List.pairwise_cons (a := a)]
    constructor
    · rintro ⟨h1, h2⟩
      refine ⟨fun y hy => ?_, h2⟩
      rcases List.mem_cons.1 hy with rfl | hy
      · exact h1
      · exact cmpK_lt_trans h1 ((List.pairwise_cons.1 h2).1 y hy)
    · rintro ⟨h1, h2⟩
      exact ⟨h1 b List.mem_cons_self, h2⟩
theorem rising_sub {l l' : List En} (h : risingE l) (hs : l'.Sublist l) : risingE l' := rising_pair.2 ((rising_pair.1 h).sublist hs)
theorem seq_of {x y : En} (h : cmpK x.k y.k < 0) (hk : x.key = y.key) : y.seq ≤ x.seq := by
  have h1 := cmpK_cases x.k y.k
  have h2 : cmpB x.k.key y.k.key = 0 := cmpB_zero.2 hk
  have e1 : x.k.seq = x.seq := rfl
  have e2 : y.k.seq = y.seq := rfl
  omega
theorem cmpB_of {x y : En} (h : cmpK x.k y.k < 0) : cmpB x.key y.key ≤ 0 := by
  have h1 := cmpK_cases x.k y.k
  have e1 : x.k.key = x.key := rfl
  have e2 : y.k.key = y.key := rfl
  rw [e1, e2] at h1
  omega
/-! ### Groups -/
def same (x : En) (l : List En) : List En := l.takeWhile fun y => decide (y.key = x.key)
def rest (x : En) (l : List En) : List En := l.dropWhile fun y => decide (y.key = x.key)
theorem take_grp (x : En) (l : List En) : (x :: l).take (grp (x :: l)) = x :: same x l ∧ (x :: l).drop (grp (x :: l)) = rest x l := by
  have e : same x l ++ rest x l = l := List.takeWhile_append_dropWhile
  have hg : grp (x :: l) = (same x l).length + 1 := by show 1 + _ = _; rw [Nat.add_comm]; rfl
  rw [hg, List.take_succ_cons, List.drop_succ_cons]
  generalize same x l = a at e ⊢
  generalize rest x l = b at e ⊢
  subst e
  exact ⟨by rw [List.take_left' rfl], by rw [List.drop_left' rfl]⟩
theorem mem_tw {γ : Type} {p : γ → Bool} {y : γ} : ∀ {l : List γ}, y ∈ l.takeWhile p → p y = true
  | [], h => by simp at h
  | z :: l, h => by
    rw [List.takeWhile_cons] at h
    split at h
    · rcases List.mem_cons.1 h with rfl | h
      · assumption
      · exact mem_tw h
    · cases h
theorem same_key {x : En} {l : List En} : ∀ y ∈ same x l, y.key = x.key := fun y hy => by
  have := mem_tw hy
  simpa using this
theorem keepP_cons' {ss : List Int} {last : Bool} {x : En} {l : List En} : keepP ss last (x :: l) = kept ss last (x :: same x l) ++ keepP ss last (rest x l) := by
  rw [keepP_cons (by simp), (take_grp x l).1, (take_grp x l).2]
theorem rest_len (x : En) (l : List En) : (rest x l).length ≤ l.length := (List.dropWhile_sublist _).length_le
theorem grp_rec {C : List En → Prop} (h0 : C []) (h1 : ∀ x l, C (rest x l) → C (x :: l)) : ∀ l, C l := by
  have key : ∀ (q : Nat) (l : List En), l.length ≤ q → C l := by
    intro q
    induction q with
    | zero => intro l hl; rw [List.length_eq_zero_iff.1 (by omega : l.length = 0)]; exact h0
    | succ q ih =>
      intro l hl
      cases l with
      | nil => exact h0
      | cons x l => exact h1 x l (ih _ (by have := rest_len x l; simp at hl; omega))
  exact fun l => key l.length l (Nat.le_refl _)
theorem keepP_sub {ss : List Int} {last : Bool} : ∀ (l : List En), (keepP ss last l).Sublist l := by
  refine grp_rec (by rw [keepP_nil]; exact List.Sublist.slnil) fun x l ih => ?_
  rw [keepP_cons']
  have e : x :: l = (x :: same x l) ++ rest x l := by rw [List.cons_append, same, rest, List.takeWhile_append_dropWhile]
  conv => rhs; rw [e]
  exact kept_sub.append ih
/-- Behind a key no entry has it again. -/
theorem rest_key {x : En} {l : List En} (h : risingE (x :: l)) : ∀ y ∈ rest x l, y.key ≠ x.key := by
  intro y hy hk
  have hp := rising_pair.1 h
  cases hr : rest x l with
  | nil => rw [hr] at hy; cases hy
  | cons z t =>
    have hz : z.key ≠ x.key := by
      have := List.head?_dropWhile_not (fun y => decide (y.key = x.key)) l
      rw [show l.dropWhile _ = z :: t from hr] at this
      simpa using this
    have hsub : (x :: z :: t).Sublist (x :: l) := by
      refine List.Sublist.cons_cons x ?_
      rw [← hr]; exact List.dropWhile_sublist _
    have hp' := hp.sublist hsub
    obtain ⟨p1, p2⟩ := List.pairwise_cons.1 hp'
    obtain ⟨p3, _⟩ := List.pairwise_cons.1 p2
    rw [hr] at hy
    rcases List.mem_cons.1 hy with rfl | hy
    · exact hz hk
    · have a1 := cmpB_of (p1 z List.mem_cons_self)
      have a2 := cmpB_of (p3 y hy)
      rw [hk] at a2
      have a3 := cmpB_anti x.key z.key
      have : cmpB x.key z.key = 0 := by omega
      exact hz (cmpB_zero.1 this).symm
/-! ### Once more -/
def chain (ss : List Int) : En → List En → Prop
  | _, [] => True
  | p, y :: l => seenP ss y.seq p.seq ∧ chain ss y l
theorem stayR_chain {ss : List Int} : ∀ {l : List En} {p : En}, chain ss p l → stayR ss p l = l
  | [], p, _ => rfl
  | y :: l, p, h => by
    unfold stayR
    rw [if_pos h.1, stayR_chain h.2]
theorem chain_stayR {ss : List Int} : ∀ {l : List En} {p p' : En}, (p :: l).Pairwise (fun x y => y.seq ≤ x.seq) → p.seq ≤ p'.seq → chain ss p' (stayR ss p l)
  | [], p, p', _, _ => trivial
  | y :: l, p, p', h, hp => by
    obtain ⟨h1, h2⟩ := List.pairwise_cons.1 h
    have h3 := h1 y List.mem_cons_self
    unfold stayR
    split
    · rename_i hs
      obtain ⟨s, m, a, b⟩ := hs
      exact ⟨⟨s, m, a, by omega⟩, chain_stayR h2 (Int.le_refl _)⟩
    · exact chain_stayR h2 (by omega)
theorem chain_pre {ss : List Int} : ∀ {l l' : List En} {p : En}, l' <+: l → chain ss p l → chain ss p l'
  | _, [], p, _, _ => trivial
  | [], y :: l', p, h, _ => by simp at h
  | z :: l, y :: l', p, h, hc => by
    obtain ⟨rfl, h'⟩ := List.cons_prefix_cons.1 h
    exact ⟨hc.1, chain_pre h' hc.2⟩
theorem trim_pre {ss : List Int} {last : Bool} {l : List En} : trim ss last l <+: l := by
  unfold trim
  split
  · have h := List.dropWhile_suffix (l := l.reverse) fun x => decide (gone ss x)
    have := List.reverse_prefix.2 h
    rwa [List.reverse_reverse] at this
  · exact List.prefix_refl _
theorem trim_end (ss : List Int) : ∀ (q : Nat) (l : List En), l.length = q → trim ss true l = [] ∨ ∃ t y, trim ss true l = t ++ [y] ∧ ¬ gone ss y
  | 0, l, h => by rw [List.length_eq_zero_iff.1 h]; exact .inl rfl
  | q + 1, l, h => by
    obtain ⟨t, y, rfl⟩ : ∃ t y, l = t ++ [y] := ⟨l.dropLast, l.getLast (by intro e; rw [e] at h; simp at h), (List.dropLast_concat_getLast _).symm⟩
    rw [trim_snoc]
    by_cases hg : gone ss y
    · rw [if_pos hg]; exact trim_end ss q t (by simpa using h)
    · rw [if_neg hg]; exact .inr ⟨t, y, rfl, hg⟩
theorem trim_twice {ss : List Int} {last : Bool} {l : List En} : trim ss last (trim ss last l) = trim ss last l := by
  cases last with
  | false => rfl
  | true =>
    rcases trim_end ss _ l rfl with h | ⟨t, y, h, hg⟩
    · rw [h]; rfl
    · rw [h, trim_snoc, if_neg hg]
theorem kept_twice {ss : List Int} {last : Bool} {g : List En} (h : g.Pairwise fun x y => y.seq ≤ x.seq) : kept ss last (kept ss last g) = kept ss last g := by
  cases g with
  | nil => cases last <;> rfl
  | cons x g =>
    have hc : chain ss x (stayR ss x g) := chain_stayR h (Int.le_refl _)
    have hp : trim ss last (stay ss (x :: g)) <+: x :: stayR ss x g := trim_pre
    unfold kept
    have e : stay ss (trim ss last (stay ss (x :: g))) = trim ss last (stay ss (x :: g)) := by
      cases ht : trim ss last (stay ss (x :: g)) with
      | nil => rfl
      | cons y t =>
        rw [ht] at hp
        obtain ⟨rfl, hp⟩ := List.cons_prefix_cons.1 hp
        show y :: stayR ss y t = y :: t
        rw [stayR_chain (chain_pre hp hc)]
    rw [e, trim_twice]
theorem same_seq {x : En} {l : List En} (h : risingE (x :: l)) : (x :: same x l).Pairwise fun x y => y.seq ≤ x.seq := by
  have hs : (x :: same x l).Sublist (x :: l) := (List.takeWhile_sublist _).cons_cons x
  have hp := (rising_pair.1 h).sublist hs
  refine hp.imp_of_mem fun {a b} ha hb hab => seq_of hab ?_
  have key : ∀ z ∈ x :: same x l, z.key = x.key := fun z hz => by
    rcases List.mem_cons.1 hz with rfl | hz
    · rfl
    · exact same_key z hz
  rw [key a ha, key b hb]
theorem rising_rest {x : En} {l : List En} (h : risingE (x :: l)) : risingE (rest x l) := rising_sub h ((List.dropWhile_sublist _).trans (List.sublist_cons_self x l))
theorem keepP_twice {ss : List Int} {last : Bool} : ∀ (l : List En), risingE l → keepP ss last (keepP ss last l) = keepP ss last l := by
  refine grp_rec (fun _ => by rw [keepP_nil, keepP_nil]) fun x l ih h => ?_
  have ih := ih (rising_rest h)
  have hk := kept_twice (ss := ss) (last := last) (same_seq h)
  have hsub : (kept ss last (x :: same x l)).Sublist (x :: same x l) := kept_sub
  rw [keepP_cons']
  cases hkk : kept ss last (x :: same x l) with
  | nil => rw [List.nil_append, ih]
  | cons y t =>
    rw [hkk] at hk hsub
    have keys : ∀ z ∈ y :: t, z.key = x.key := fun z hz => by
      rcases List.mem_cons.1 (hsub.subset hz) with rfl | hz
      · rfl
      · exact same_key z hz
    have hy := keys y List.mem_cons_self
    have hne : ∀ z ∈ keepP ss last (rest x l), z.key ≠ y.key := fun z hz => by
      rw [hy]; exact rest_key h z ((keepP_sub _).subset hz)
    have e1 : same y (t ++ keepP ss last (rest x l)) = t ∧ rest y (t ++ keepP ss last (rest x l)) = keepP ss last (rest x l) := by
      have ht : ∀ z ∈ t, decide (z.key = y.key) = true := fun z hz => by rw [decide_eq_true_eq, hy]; exact keys z (List.mem_cons_of_mem _ hz)
      constructor
      · rw [same, List.takeWhile_append_of_pos ht]
        cases hr : keepP ss last (rest x l) with
        | nil => simp
        | cons z r => rw [List.takeWhile_cons_of_neg (by simpa using hne z (by rw [hr]; exact List.mem_cons_self)), List.append_nil]
      · rw [rest, List.dropWhile_append_of_pos ht]
        cases hr : keepP ss last (rest x l) with
        | nil => simp
        | cons z r => rw [List.dropWhile_cons_of_neg (by simpa using hne z (by rw [hr]; exact List.mem_cons_self))]
    rw [List.cons_append, keepP_cons', e1.1, e1.2, hk, ih, List.cons_append]
/-! ### Without snapshots -/
def leastR (last : Bool) : List Int → List En → List En
  | _, [] => []
  | p, y :: l => if y.key = p ∨ (last = true ∧ y.kind = 0) then leastR last y.key l else y :: leastR last y.key l
def least (last : Bool) : List En → List En
  | [] => []
  | y :: l => if last = true ∧ y.kind = 0 then leastR last y.key l else y :: leastR last y.key l
theorem stayR_none : ∀ (l : List En) (p : En), stayR [] p l = []
  | [], p => rfl
  | y :: l, p => by
    unfold stayR
    rw [if_neg (by rintro ⟨s, h, _⟩; cases h), stayR_none l y]
theorem least_skip {last : Bool} {k : List Int} : ∀ (g r : List En), (∀ z ∈ g, z.key = k) → leastR last k (g ++ r) = leastR last k r
  | [], r, _ => rfl
  | z :: g, r, h => by
    have hz := h z List.mem_cons_self
    rw [List.cons_append, leastR, if_pos (.inl hz), hz]
    exact least_skip g r fun y hy => h y (List.mem_cons_of_mem _ hy)
theorem keepP_least {last : Bool} : ∀ (l : List En), keepP [] last l = least last l := by
  refine grp_rec (by rw [keepP_nil]; rfl) fun x l ih => ?_
  rw [keepP_cons', ih]
  have e1 : kept [] last (x :: same x l) = if last = true ∧ x.kind = 0 then [] else [x] := by
    show trim [] last (x :: stayR [] x (same x l)) = _
    rw [stayR_none]
    cases last with
    | false => rfl
    | true =>
      rw [show [x] = [] ++ [x] from rfl, trim_snoc]
      have hg : gone [] x ↔ x.kind = 0 := ⟨fun h => h.1, fun h => ⟨h, by rintro ⟨s, h, _⟩; cases h⟩⟩
      by_cases h : x.kind = 0
      · rw [if_pos (hg.2 h), if_pos ⟨rfl, h⟩]; rfl
      · rw [if_neg (fun h' => h (hg.1 h')), if_neg (fun h' => h h'.2)]
  have e2 : leastR last x.key l = least last (rest x l) := by
    have e : l = same x l ++ rest x l := List.takeWhile_append_dropWhile.symm
    conv => lhs; rw [e]
    rw [least_skip _ _ fun z hz => same_key z hz]
    cases hr : rest x l with
    | nil => rfl
    | cons z t =>
      have hz : z.key ≠ x.key := by
        have := List.head?_dropWhile_not (fun y => decide (y.key = x.key)) l
        rw [show l.dropWhile _ = z :: t from hr] at this
        simpa using this
      show (if z.key = x.key ∨ (last = true ∧ z.kind = 0) then leastR last z.key t else z :: leastR last z.key t) = (if last = true ∧ z.kind = 0 then leastR last z.key t else z :: leastR last z.key t)
      by_cases h : last = true ∧ z.kind = 0
      · rw [if_pos (.inr h), if_pos h]
      · rw [if_neg (fun h' => h'.elim hz h), if_neg h]
  rw [e1, ← e2]
  show _ = (if last = true ∧ x.kind = 0 then leastR last x.key l else x :: leastR last x.key l)
  split <;> rfl
end Go.Proofs.Ytoilmnplocfipaa.Dr
