/- Drop, the plain law: what is visible of what stays is what was visible. -/
import Derived.Test.YtoilmnplocfipaaD5
namespace Go.Proofs.Ytoilmnplocfipaa.Dr
open Go Big Ik
set_option linter.unusedVariables false
set_option linter.unusedSimpArgs false
theorem find_stayR {ss : List Int} {q : Int} (hq : q ∈ ss) : ∀ {l : List En} {p : En}, ¬ p.seq ≤ q → (stayR ss p l).find? (fun x => decide (x.seq ≤ q)) = l.find? fun x => decide (x.seq ≤ q)
  | [], p, _ => rfl
  | y :: l, p, hp => by
    unfold stayR
    by_cases hy : y.seq ≤ q
    · rw [if_pos ⟨q, hq, hy, by omega⟩, List.find?_cons_of_pos (by simpa using hy), List.find?_cons_of_pos (by simpa using hy)]
    · rw [List.find?_cons_of_neg (a := y) (l := l) (by simpa using hy)]
      split
      · rw [List.find?_cons_of_neg (by simpa using hy)]; exact find_stayR hq hy
      · exact find_stayR hq hy
theorem seenAt_stay {ss : List Int} {q : Int} {g : List En} (h : q ∈ ss ∨ ∀ x ∈ g, x.seq ≤ q) : seenAt q (stay ss g) = seenAt q g := by
  cases g with
  | nil => rfl
  | cons x g =>
    have e : (stay ss (x :: g)).find? (fun x => decide (x.seq ≤ q)) = (x :: g).find? fun x => decide (x.seq ≤ q) := by
      show (x :: stayR ss x g).find? _ = _
      by_cases hx : x.seq ≤ q
      · rw [List.find?_cons_of_pos (by simpa using hx), List.find?_cons_of_pos (by simpa using hx)]
      · rw [List.find?_cons_of_neg (by simpa using hx), List.find?_cons_of_neg (by simpa using hx)]
        exact find_stayR (h.resolve_right fun h' => hx (h' x List.mem_cons_self)) hx
    unfold seenAt
    rw [e]
theorem seenAt_snoc {q : Int} {g : List En} {x : En} (h : x.kind ≠ 1) : seenAt q (g ++ [x]) = seenAt q g := by
  unfold seenAt
  rw [List.find?_append]
  cases g.find? fun x => decide (x.seq ≤ q) with
  | some y => rfl
  | none =>
    by_cases hx : x.seq ≤ q
    · rw [List.find?_cons_of_pos (by simpa using hx)]; exact if_neg h
    · rw [List.find?_cons_of_neg (by simpa using hx)]; rfl
theorem seenAt_trim {ss : List Int} {q : Int} : ∀ (n : Nat) (g : List En), g.length = n → seenAt q (trim ss true g) = seenAt q g
  | 0, g, h => by rw [List.length_eq_zero_iff.1 h]; rfl
  | n + 1, g, h => by
    obtain ⟨t, y, rfl⟩ : ∃ t y, g = t ++ [y] := ⟨g.dropLast, g.getLast (by intro e; rw [e] at h; simp at h), (List.dropLast_concat_getLast _).symm⟩
    rw [trim_snoc]
    by_cases hg : gone ss y
    · rw [if_pos hg, seenAt_snoc (by have := hg.1; omega)]
      exact seenAt_trim n t (by simpa using h)
    · rw [if_neg hg]
theorem seenAt_kept {ss : List Int} {last : Bool} {q : Int} {g : List En} (h : q ∈ ss ∨ ∀ x ∈ g, x.seq ≤ q) : seenAt q (kept ss last g) = seenAt q g := by
  have e := seenAt_stay h
  unfold kept
  cases last with
  | false => exact e
  | true => rw [seenAt_trim _ _ rfl, e]
theorem group_app {y : En} {t r : List En} (ht : ∀ z ∈ t, z.key = y.key) (hr : ∀ z ∈ r, z.key ≠ y.key) : same y (t ++ r) = t ∧ rest y (t ++ r) = r := by
  have ht : ∀ z ∈ t, decide (z.key = y.key) = true := fun z hz => decide_eq_true (ht z hz)
  constructor
  · rw [same, List.takeWhile_append_of_pos ht]
    cases r with
    | nil => simp
    | cons z r => rw [List.takeWhile_cons_of_neg (by simpa using hr z List.mem_cons_self), List.append_nil]
  · rw [rest, List.dropWhile_append_of_pos ht]
    cases r with
    | nil => simp
    | cons z r => rw [List.dropWhile_cons_of_neg (by simpa using hr z List.mem_cons_self)]
theorem visP_keepP {ss : List Int} {last : Bool} {q : Int} : ∀ (l : List En), risingE l → (q ∈ ss ∨ ∀ x ∈ l, x.seq ≤ q) → visP q (keepP ss last l) = visP q l := by
  refine grp_rec (fun _ _ => by rw [keepP_nil]) fun x l ih h hq => ?_
  have hsr : (rest x l).Sublist l := List.dropWhile_sublist _
  have hsm : (same x l).Sublist l := List.takeWhile_sublist _
  have ih := ih (rising_rest h) (hq.imp id fun h z hz => h z (List.mem_cons_of_mem _ (hsr.subset hz)))
  have hk := seenAt_kept (ss := ss) (last := last) (q := q) (g := x :: same x l) (hq.imp id fun h z hz => by
    rcases List.mem_cons.1 hz with rfl | hz
    · exact h _ List.mem_cons_self
    · exact h z (List.mem_cons_of_mem _ (hsm.subset hz)))
  have hsub : (kept ss last (x :: same x l)).Sublist (x :: same x l) := kept_sub
  rw [keepP_cons', visP_cons', ← hk, ← ih]
  cases hkk : kept ss last (x :: same x l) with
  | nil => rw [List.nil_append]; rfl
  | cons y t =>
    rw [hkk] at hsub
    have keys : ∀ z ∈ y :: t, z.key = x.key := fun z hz => by
      rcases List.mem_cons.1 (hsub.subset hz) with rfl | hz
      · rfl
      · exact same_key z hz
    have hy := keys y List.mem_cons_self
    obtain ⟨e1, e2⟩ := group_app (y := y) (t := t) (r := keepP ss last (rest x l)) (fun z hz => by rw [hy]; exact keys z (List.mem_cons_of_mem _ hz)) (fun z hz => by rw [hy]; exact rest_key h z ((keepP_sub _).subset hz))
    rw [List.cons_append, visP_cons', e1, e2]
end Go.Proofs.Ytoilmnplocfipaa.Dr
