/- A sorted buffer, the plain law: rows of levels, what comes behind, and a way down. -/
import Derived.Test.YtoilmnplocfipaaK1
namespace Go.Proofs.Ytoilmnplocfipaa.Sk
open Go Big Ik
set_option linter.unusedVariables false
set_option linter.unusedSimpArgs false
structure Nd where
  e : En
  next : List (Option Nat)
structure St where
  first : List (Option Nat)
  nodes : List Nd
  bytes : Int
def ht (s : St) (i : Nat) : Nat := match s.nodes[i]? with | some x => x.next.length | none => 0
def ky (s : St) (i : Nat) : Key := match s.nodes[i]? with | some x => x.e.k | none => ⟨[], 0, 0⟩
def chain (s : St) (ord : List Nat) (j : Nat) : List Nat := ord.filter fun i => decide (j < ht s i)
/-- As it stands in memory. -/
def en : Option Nat → Int
  | none => -1
  | some i => (i : Int)
theorem en_none {a : Option Nat} : en a = -1 ↔ a = none := by
  cases a with
  | none => simp [en]
  | some i => simp [en]
/-- What comes behind a node in a level. -/
def Aft (s : St) (a : Option Nat) (j : Nat) (v : Option Nat) : Prop :=
  match a with
  | none => s.first[j]? = some v
  | some k => ∃ x, s.nodes[k]? = some x ∧ x.next[j]? = some v
def hd : List Nat → Option Nat
  | [] => none
  | x :: _ => some x
def lastI : List Nat → Option Nat
  | [] => none
  | [x] => some x
  | _ :: y :: l => lastI (y :: l)
def Lnk (s : St) (j : Nat) : Option Nat → List Nat → Prop
  | a, [] => Aft s a j none
  | a, x :: t => Aft s a j (some x) ∧ Lnk s j (some x) t
def bel (s : St) (k : Key) (i : Nat) : Bool := decide (cmpK (ky s i) k < 0)
theorem lastI_snoc : ∀ (l : List Nat) (x : Nat), lastI (l ++ [x]) = some x
  | [], x => rfl
  | [y], x => rfl
  | y :: z :: l, x => lastI_snoc (z :: l) x
theorem Lnk.hd {s : St} {j : Nat} {a : Option Nat} {l : List Nat} (h : Lnk s j a l) : Aft s a j (hd l) := by
  cases l with
  | nil => exact h
  | cons x t => exact h.1
theorem Lnk.app {s : St} {j : Nat} : ∀ {p : List Nat} {x : Nat} {t : List Nat} {a : Option Nat}, Lnk s j a (p ++ x :: t) → Lnk s j (some x) t
  | [], x, t, a, h => h.2
  | y :: p, x, t, a, h => Lnk.app (p := p) h.2
theorem Lnk.behind {s : St} {j : Nat} {p t : List Nat} (h : Lnk s j none (p ++ t)) : Lnk s j (lastI p) t := by
  by_cases hp : p = []
  · subst hp; exact h
  · obtain ⟨q, x, rfl⟩ : ∃ q x, p = q ++ [x] := ⟨p.dropLast, p.getLast hp, (List.dropLast_concat_getLast hp).symm⟩
    rw [lastI_snoc]
    rw [List.append_assoc, List.singleton_append] at h
    exact h.app
structure Inv (s : St) (ord : List Nat) : Prop where
  fst : s.first.length = 12
  len : ord.length = s.nodes.length
  perm : ∀ i, i ∈ ord → i < s.nodes.length
  srt : ord.Pairwise fun i j => cmpK (ky s i) (ky s j) < 0
  ht : ∀ x ∈ s.nodes, 1 ≤ x.next.length ∧ x.next.length ≤ 12
  lnk : ∀ j, j < 12 → Lnk s j none (chain s ord j)
theorem cmpK_ltt {x y z : Key} (h1 : cmpK x y < 0) (h2 : cmpK y z < 0) : cmpK x z < 0 := by
  have h := cmpK_trans (x := x) (y := y) (z := z) (by omega) (by omega)
  rcases cmpK_tri x z with e | e | e
  · omega
  · exfalso
    have e1 := (cmpK_zero x z).1 e
    have : x = z := by cases x; cases z; simp_all
    subst this
    have := cmpK_anti x y
    omega
  · omega
section
variable {s : St} {ord : List Nat} {k : Key} {i j m : Nat}
/-- In a sorted row those below a key stand ahead. -/
theorem tw_filter : ∀ {l : List Nat}, l.Pairwise (fun i j => cmpK (ky s i) (ky s j) < 0) → l.takeWhile (bel s k) = l.filter (bel s k) ∧ l.dropWhile (bel s k) = l.filter (fun i => !bel s k i)
  | [], _ => ⟨rfl, rfl⟩
  | x :: l, h => by
    obtain ⟨h1, h2⟩ := List.pairwise_cons.1 h
    obtain ⟨e1, e2⟩ := tw_filter h2
    cases hb : bel s k x with
    | true =>
      rw [List.takeWhile_cons_of_pos hb, List.dropWhile_cons_of_pos hb, List.filter_cons_of_pos hb, List.filter_cons_of_neg (by simp [hb]), e1, e2]
      exact ⟨rfl, rfl⟩
    | false =>
      have hn : ∀ y ∈ l, bel s k y = false := fun y hy => by
        rw [Bool.eq_false_iff]
        intro hy'
        have a1 := h1 y hy
        have a2 : cmpK (ky s y) k < 0 := by simpa [bel] using hy'
        have a3 := cmpK_ltt a1 a2
        have : bel s k x = true := by simpa [bel] using a3
        rw [hb] at this; cases this
      rw [List.takeWhile_cons_of_neg (by simp [hb]), List.dropWhile_cons_of_neg (by simp [hb]), List.filter_cons_of_neg (by simp [hb]), List.filter_cons_of_pos (by simp [hb])]
      constructor
      · exact (List.filter_eq_nil_iff.2 fun y hy => by simp [hn y hy]).symm
      · rw [List.filter_eq_self.2 fun y hy => by simp [hn y hy]]
theorem chain_srt (h : Inv s ord) : (chain s ord j).Pairwise fun i j => cmpK (ky s i) (ky s j) < 0 := h.srt.sublist List.filter_sublist
theorem chain_tw (h : Inv s ord) : (chain s ord j).takeWhile (bel s k) = (ord.takeWhile (bel s k)).filter fun i => decide (j < ht s i) := by
  rw [(tw_filter (chain_srt h)).1, (tw_filter h.srt).1, chain, List.filter_filter, List.filter_filter]
  congr 1; funext x; exact Bool.and_comm _ _
theorem chain_dw (h : Inv s ord) : (chain s ord j).dropWhile (bel s k) = (ord.dropWhile (bel s k)).filter fun i => decide (j < ht s i) := by
  rw [(tw_filter (chain_srt h)).2, (tw_filter h.srt).2, chain, List.filter_filter, List.filter_filter]
  congr 1; funext x; exact Bool.and_comm _ _
/-- The last one ahead of a key, in a level. -/
def pth (s : St) (ord : List Nat) (k : Key) (j : Nat) : Option Nat := lastI ((chain s ord j).takeWhile (bel s k))
theorem tw_of_split {l p t : List Nat} (e : l = p ++ t) (hp : ∀ x ∈ p, bel s k x = true) (ht : t = [] ∨ ∃ x r, t = x :: r ∧ bel s k x = false) : l.takeWhile (bel s k) = p := by
  subst e
  rw [List.takeWhile_append_of_pos hp]
  rcases ht with rfl | ⟨x, r, rfl, hx⟩
  · simp
  · rw [List.takeWhile_cons_of_neg (by simp [hx]), List.append_nil]
theorem descend (h : Inv s ord) {p t : List Nat} (e : chain s ord (j + 1) = p ++ t) (hp : ∀ x ∈ p, bel s k x = true) : ∃ p' t', chain s ord j = p' ++ t' ∧ (∀ x ∈ p', bel s k x = true) ∧ lastI p' = lastI p := by
  by_cases hn : p = []
  · exact ⟨[], _, rfl, by simp, by rw [hn]⟩
  · obtain ⟨q, x, rfl⟩ : ∃ q x, p = q ++ [x] := ⟨p.dropLast, p.getLast hn, (List.dropLast_concat_getLast hn).symm⟩
    have hx : x ∈ chain s ord (j + 1) := by rw [e]; simp
    have hx' : x ∈ chain s ord j := by
      unfold chain at hx ⊢
      rw [List.mem_filter] at hx ⊢
      exact ⟨hx.1, by have := hx.2; simp only [decide_eq_true_eq] at this ⊢; omega⟩
    obtain ⟨a, b, hab⟩ := List.append_of_mem hx'
    refine ⟨a ++ [x], b, by rw [hab]; simp, fun y hy => ?_, by rw [lastI_snoc, lastI_snoc]⟩
    have hxb := hp x (by simp)
    rcases List.mem_append.1 hy with hy | hy
    · have hs := chain_srt (j := j) h
      rw [hab, List.pairwise_append] at hs
      have h1 := hs.2.2 y hy x List.mem_cons_self
      have h2 : cmpK (ky s x) k < 0 := by simpa [bel] using hxb
      have := cmpK_ltt h1 h2
      simpa [bel] using this
    · rw [List.mem_singleton] at hy; subst hy; exact hxb
theorem chain_len (h : Inv s ord) : (chain s ord j).length ≤ s.nodes.length := by
  have h1 : (chain s ord j).length ≤ ord.length := List.filter_sublist.length_le
  have h2 := h.len
  omega
theorem chain_mem {x : Nat} (h : Inv s ord) (hx : x ∈ chain s ord j) : ∃ y, s.nodes[x]? = some y ∧ j < y.next.length := by
  unfold chain at hx
  rw [List.mem_filter] at hx
  have hlt := h.perm x hx.1
  have hy : s.nodes[x]? = some (s.nodes[x]'hlt) := List.getElem?_eq_getElem hlt
  refine ⟨_, hy, ?_⟩
  have := hx.2
  simp only [ht, hy, decide_eq_true_eq] at this
  exact this
/-! ### What is turned -/
def setAft (s : St) (a : Option Nat) (j : Nat) (v : Option Nat) : St :=
  match a with
  | none => { s with first := s.first.set j v }
  | some k => match s.nodes[k]? with
    | some x => { s with nodes := s.nodes.set k { x with next := x.next.set j v } }
    | none => s
theorem Aft.uniq {a v v' : Option Nat} (h : Aft s a j v) (h' : Aft s a j v') : v = v' := by
  cases a with
  | none =>
    have h : s.first[j]? = some v := h
    have h' : s.first[j]? = some v' := h'
    rw [h] at h'; injection h'
  | some q =>
    obtain ⟨x, h2, h3⟩ := h
    obtain ⟨x', h5, h6⟩ := h'
    rw [h2] at h5; injection h5 with h5; subst h5
    rw [h3] at h6; injection h6
theorem setAft_same {a v v0 : Option Nat} (h : Aft s a j v0) : Aft (setAft s a j v) a j v := by
  cases a with
  | none =>
    have h : s.first[j]? = some v0 := h
    have := (List.getElem?_eq_some_iff.1 h).1
    show (s.first.set j v)[j]? = some v
    simp [this]
  | some q =>
    obtain ⟨x, h2, h3⟩ := h
    have hq := (List.getElem?_eq_some_iff.1 h2).1
    have hj := (List.getElem?_eq_some_iff.1 h3).1
    refine ⟨{ x with next := x.next.set j v }, ?_, by simp [hj]⟩
    simp only [setAft, h2]
    rw [List.getElem?_set_self hq]
theorem setAft_other {a v a' v' : Option Nat} {j' : Nat} (hne : ¬ (a' = a ∧ j' = j)) : Aft (setAft s a j v) a' j' v' ↔ Aft s a' j' v' := by
  cases a with
  | none =>
    cases a' with
    | none =>
      have : j ≠ j' := fun e => hne ⟨rfl, e.symm⟩
      show (s.first.set j v)[j']? = some v' ↔ s.first[j']? = some v'
      rw [List.getElem?_set_ne this]
    | some q => exact Iff.rfl
  | some k =>
    cases hx : s.nodes[k]? with
    | none => simp only [setAft, hx]
    | some x =>
      cases a' with
      | none => simp only [setAft, hx]; exact Iff.rfl
      | some q =>
        simp only [setAft, hx]
        show (∃ y, (s.nodes.set k { x with next := x.next.set j v })[q]? = some y ∧ y.next[j']? = some v') ↔ ∃ y, s.nodes[q]? = some y ∧ y.next[j']? = some v'
        by_cases hq : k = q
        · subst hq
          have hlt := (List.getElem?_eq_some_iff.1 hx).1
          have hj : j ≠ j' := fun e => hne ⟨rfl, e.symm⟩
          rw [List.getElem?_set_self hlt, hx]
          constructor
          · rintro ⟨y, e, h⟩
            injection e with e; subst e
            exact ⟨x, rfl, by rwa [List.getElem?_set_ne hj] at h⟩
          · rintro ⟨y, e, h⟩
            injection e with e; subst e
            exact ⟨_, rfl, by rw [List.getElem?_set_ne hj]; exact h⟩
        · rw [List.getElem?_set_ne hq]
/-- The nodes as they are but for what is told of behind them. -/
theorem setAft_nd (s : St) (a : Option Nat) (j : Nat) (v : Option Nat) : (setAft s a j v).first.length = s.first.length ∧ (setAft s a j v).nodes.length = s.nodes.length ∧ (setAft s a j v).bytes = s.bytes ∧ ∀ i : Nat, ((setAft s a j v).nodes[i]?).map (fun x => (x.e, x.next.length)) = (s.nodes[i]?).map fun x => (x.e, x.next.length) := by
  cases a with
  | none => exact ⟨by simp [setAft], rfl, rfl, fun i => rfl⟩
  | some k =>
    cases hx : s.nodes[k]? with
    | none => simp [setAft, hx]
    | some x =>
      refine ⟨by simp [setAft, hx], by simp [setAft, hx], by simp [setAft, hx], fun i => ?_⟩
      simp only [setAft, hx]
      by_cases hi : k = i
      · subst hi
        have hlt := (List.getElem?_eq_some_iff.1 hx).1
        rw [List.getElem?_set_self hlt, hx]; simp
      · rw [List.getElem?_set_ne hi]
def insS (s : St) (p : Nat → Option Nat) (m : Nat) : Nat → St
  | 0 => s
  | i + 1 => setAft (insS s p m i) (p i) i (some m)
theorem insS_nd (s : St) (p : Nat → Option Nat) (m : Nat) : ∀ i, (insS s p m i).first.length = s.first.length ∧ (insS s p m i).nodes.length = s.nodes.length ∧ (insS s p m i).bytes = s.bytes ∧ ∀ q : Nat, ((insS s p m i).nodes[q]?).map (fun x => (x.e, x.next.length)) = (s.nodes[q]?).map fun x => (x.e, x.next.length)
  | 0 => ⟨rfl, rfl, rfl, fun _ => rfl⟩
  | i + 1 => by
    obtain ⟨h1, h2, h3, h4⟩ := insS_nd s p m i
    obtain ⟨g1, g2, g3, g4⟩ := setAft_nd (insS s p m i) (p i) i (some m)
    exact ⟨g1.trans h1, g2.trans h2, g3.trans h3, fun q => (g4 q).trans (h4 q)⟩
theorem insS_aft {p : Nat → Option Nat} : ∀ {i : Nat}, (∀ j, j < i → ∃ v, Aft s (p j) j v) → ∀ {a : Option Nat} {j : Nat} {v : Option Nat}, Aft (insS s p m i) a j v ↔ (j < i ∧ a = p j ∧ v = some m) ∨ (¬ (j < i ∧ a = p j) ∧ Aft s a j v)
  | 0, _, a, j, v => by simp [insS]
  | i + 1, h, a, j, v => by
    have ih := @insS_aft p i (fun j hj => h j (by omega))
    unfold insS
    by_cases hc : a = p i ∧ j = i
    · obtain ⟨rfl, rfl⟩ := hc
      obtain ⟨v0, hv0⟩ := h j (by omega)
      have h1 : Aft (insS s p m j) (p j) j v0 := ih.2 (.inr ⟨by omega, hv0⟩)
      have h2 := setAft_same (v := some m) h1
      constructor
      · intro h3; exact .inl ⟨by omega, rfl, h3.uniq h2⟩
      · rintro (⟨_, _, rfl⟩ | ⟨hn, _⟩)
        · exact h2
        · exact absurd ⟨by omega, rfl⟩ hn
    · rw [setAft_other hc, ih]
      have hj : j < i + 1 ∧ a = p j ↔ j < i ∧ a = p j := by
        constructor
        · rintro ⟨h1, h2⟩
          refine ⟨?_, h2⟩
          rcases Nat.lt_or_ge j i with h3 | h3
          · exact h3
          · obtain rfl : j = i := by omega
            exact absurd ⟨h2, rfl⟩ hc
        · rintro ⟨h1, h2⟩; exact ⟨by omega, h2⟩
      constructor
      · rintro (⟨h1, h2, h3⟩ | ⟨h1, h2⟩)
        · exact .inl ⟨by omega, h2, h3⟩
        · exact .inr ⟨fun h => h1 (hj.1 h), h2⟩
      · rintro (⟨h1, h2, h3⟩ | ⟨h1, h2⟩)
        · exact .inl ⟨(hj.1 ⟨h1, h2⟩).1, h2, h3⟩
        · exact .inr ⟨fun h => h1 (hj.2 h), h2⟩
/-! ### An entry more -/
def addS (s : St) (p : Nat → Option Nat) (nx : List (Option Nat)) (e : En) (b : Int) : St :=
  { first := (insS s p s.nodes.length nx.length).first, nodes := (insS s p s.nodes.length nx.length).nodes ++ [⟨e, nx⟩], bytes := b }
theorem addS_len {p : Nat → Option Nat} {nx : List (Option Nat)} {e : En} {b : Int} : (addS s p nx e b).nodes.length = s.nodes.length + 1 := by
  simp [addS, (insS_nd s p s.nodes.length nx.length).2.1]
theorem addS_new {p : Nat → Option Nat} {nx : List (Option Nat)} {e : En} {b : Int} : (addS s p nx e b).nodes[s.nodes.length]? = some ⟨e, nx⟩ := by
  have h := (insS_nd s p s.nodes.length nx.length).2.1
  simp only [addS]
  rw [List.getElem?_append_right (by omega), h, Nat.sub_self]; rfl
theorem addS_old {p : Nat → Option Nat} {nx : List (Option Nat)} {e : En} {b : Int} {q : Nat} (hq : q < s.nodes.length) : ht (addS s p nx e b) q = ht s q ∧ ky (addS s p nx e b) q = ky s q := by
  have h := insS_nd s p s.nodes.length nx.length
  have e1 : (addS s p nx e b).nodes[q]? = (insS s p s.nodes.length nx.length).nodes[q]? := by
    simp only [addS]; rw [List.getElem?_append_left (by omega)]
  have h4 := h.2.2.2 q
  unfold ht ky
  rw [e1]
  cases h1 : (insS s p s.nodes.length nx.length).nodes[q]? with
  | none => rw [h1] at h4; cases h2 : s.nodes[q]? with
    | none => exact ⟨rfl, rfl⟩
    | some y => rw [h2] at h4; simp at h4
  | some x => rw [h1] at h4; cases h2 : s.nodes[q]? with
    | none => rw [h2] at h4; simp at h4
    | some y =>
      rw [h2] at h4
      simp only [Option.map_some, Option.some.injEq, Prod.mk.injEq] at h4
      exact ⟨h4.2, by simp only [En.k, h4.1]⟩
theorem addS_aft {p : Nat → Option Nat} {nx : List (Option Nat)} {e : En} {b : Int} (h : ∀ j, j < nx.length → ∃ v, Aft s (p j) j v) (hlt : ∀ j q, p j = some q → q < s.nodes.length) {a : Option Nat} {j : Nat} {v : Option Nat} (ha : a ≠ some s.nodes.length) :
    Aft (addS s p nx e b) a j v ↔ (j < nx.length ∧ a = p j ∧ v = some s.nodes.length) ∨ (¬ (j < nx.length ∧ a = p j) ∧ Aft s a j v) := by
  rw [← insS_aft (m := s.nodes.length) h]
  cases a with
  | none => exact Iff.rfl
  | some q =>
    have h2 := (insS_nd s p s.nodes.length nx.length).2.1
    show (∃ x, ((insS s p s.nodes.length nx.length).nodes ++ [⟨e, nx⟩])[q]? = some x ∧ x.next[j]? = some v) ↔ ∃ x, (insS s p s.nodes.length nx.length).nodes[q]? = some x ∧ x.next[j]? = some v
    by_cases hq : q < s.nodes.length
    · rw [List.getElem?_append_left (by omega)]
    · have : q ≠ s.nodes.length := fun e => ha (by rw [e])
      constructor
      · rintro ⟨x, h1, _⟩
        have := (List.getElem?_eq_some_iff.1 h1).1
        rw [List.length_append, List.length_singleton] at this; omega
      · rintro ⟨x, h1, _⟩
        have := (List.getElem?_eq_some_iff.1 h1).1
        omega
def lastA (a : Option Nat) : List Nat → Option Nat
  | [] => a
  | x :: l => lastA (some x) l
theorem lastA_I : ∀ (l : List Nat) (a : Option Nat), lastA a l = match l with | [] => a | _ => lastI l
  | [], a => rfl
  | [x], a => rfl
  | x :: y :: l, a => by
    have := lastA_I (y :: l) (some x)
    exact this
theorem lastA_mem : ∀ (l : List Nat) (a : Option Nat), lastA a l = a ∨ ∃ x ∈ l, lastA a l = some x
  | [], a => .inl rfl
  | x :: l, a => by
    rcases lastA_mem l (some x) with h | ⟨y, hy, h⟩
    · exact .inr ⟨x, List.mem_cons_self, h⟩
    · exact .inr ⟨y, List.mem_cons_of_mem _ hy, h⟩
theorem Lnk.keep {s' : St} {j : Nat} : ∀ {l : List Nat} {a : Option Nat}, (∀ a' v, (a' = a ∨ ∃ x ∈ l, a' = some x) → Aft s a' j v → Aft s' a' j v) → Lnk s j a l → Lnk s' j a l
  | [], a, hk, h => hk a _ (.inl rfl) h
  | x :: l, a, hk, h => ⟨hk a _ (.inl rfl) h.1, Lnk.keep (fun a' v ha' => hk a' v (.inr (ha'.elim (fun e => ⟨x, List.mem_cons_self, e⟩) fun ⟨y, hy, e⟩ => ⟨y, List.mem_cons_of_mem _ hy, e⟩))) h.2⟩
theorem Lnk.put {s' : St} {m j : Nat} {t : List Nat} : ∀ {p : List Nat} {a : Option Nat}, (∀ a' v, (a' = a ∨ ∃ x ∈ p ++ t, a' = some x) → a' ≠ lastA a p → Aft s a' j v → Aft s' a' j v) → Aft s' (lastA a p) j (some m) → Aft s' (some m) j (Sk.hd t) →
    (∀ x ∈ p ++ t, a ≠ some x) → (p ++ t).Nodup → Lnk s j a (p ++ t) → Lnk s' j a (p ++ m :: t)
  | [], a, hk, h1, h2, ha, hn, h => by
    refine ⟨h1, ?_⟩
    cases t with
    | nil => exact h2
    | cons x r =>
      refine ⟨h2, Lnk.keep (fun a' v ha' => hk a' v (.inr ?_) ?_) h.2⟩
      · rcases ha' with rfl | ⟨y, hy, rfl⟩
        · exact ⟨x, List.mem_cons_self, rfl⟩
        · exact ⟨y, List.mem_cons_of_mem _ hy, rfl⟩
      · intro e
        rcases ha' with rfl | ⟨y, hy, rfl⟩
        · exact ha x List.mem_cons_self e.symm
        · exact ha y (List.mem_cons_of_mem _ hy) e.symm
  | y :: p, a, hk, h1, h2, ha, hn, h => by
    have hn' := List.nodup_cons.1 hn
    refine ⟨hk a _ (.inl rfl) ?_ h.1, Lnk.put (p := p) (fun a' v ha' hne => hk a' v (.inr ?_) hne) h1 h2 (fun x hx e => ?_) hn'.2 h.2⟩
    · intro e
      rcases lastA_mem p (some y) with h3 | ⟨x, hx, h3⟩
      · exact ha y List.mem_cons_self (e.trans h3)
      · exact ha x (List.mem_cons_of_mem _ (List.mem_append_left _ hx)) (e.trans h3)
    · rcases ha' with rfl | ⟨x, hx, rfl⟩
      · exact ⟨y, List.mem_cons_self, rfl⟩
      · exact ⟨x, List.mem_cons_of_mem _ hx, rfl⟩
    · injection e with e; subst e; exact hn'.1 hx
theorem pair_nodup {l : List Nat} (h : l.Pairwise fun i j => cmpK (ky s i) (ky s j) < 0) : l.Nodup :=
  h.imp fun {a b} hab e => by subst e; rw [(cmpK_zero _ _).2 ⟨rfl, rfl, rfl⟩] at hab; omega
theorem addS_inv {p : Nat → Option Nat} {nx : List (Option Nat)} {e : En} {b : Int} (h : Inv s ord) (hne : ∀ i ∈ ord, cmpK (ky s i) e.k ≠ 0) (hl : 1 ≤ nx.length ∧ nx.length ≤ 12) (hnx : ∀ j, j < nx.length → nx[j]? = some (Sk.hd ((chain s ord j).dropWhile (bel s e.k))))
    (hp : ∀ j, j < nx.length → p j = pth s ord e.k j) (hpl : ∀ j q, p j = some q → q < s.nodes.length) : Inv (addS s p nx e b) (ord.takeWhile (bel s e.k) ++ s.nodes.length :: ord.dropWhile (bel s e.k)) := by
  have hsp : ord.takeWhile (bel s e.k) ++ ord.dropWhile (bel s e.k) = ord := List.takeWhile_append_dropWhile
  have hmem : ∀ i, i ∈ ord.takeWhile (bel s e.k) ∨ i ∈ ord.dropWhile (bel s e.k) → i < s.nodes.length := fun i hi => h.perm i (by rw [← hsp]; exact List.mem_append.2 hi)
  have hav : ∀ j, j < nx.length → ∃ v, Aft s (p j) j v := fun j hj => by
    have h1 := h.lnk j (by omega)
    rw [← List.takeWhile_append_dropWhile (p := bel s e.k) (l := chain s ord j)] at h1
    rw [hp j hj]
    exact ⟨_, h1.behind.hd⟩
  have knew : ky (addS s p nx e b) s.nodes.length = e.k := by unfold ky; rw [addS_new]
  have hnew : ht (addS s p nx e b) s.nodes.length = nx.length := by unfold ht; rw [addS_new]
  have hch : ∀ j, chain (addS s p nx e b) (ord.takeWhile (bel s e.k) ++ s.nodes.length :: ord.dropWhile (bel s e.k)) j = (chain s ord j).takeWhile (bel s e.k) ++ (if j < nx.length then s.nodes.length :: (chain s ord j).dropWhile (bel s e.k) else (chain s ord j).dropWhile (bel s e.k)) := by
    intro j
    rw [chain_tw h, chain_dw h]
    unfold chain
    rw [List.filter_append, List.filter_cons]
    have f1 : ∀ l : List Nat, (∀ i ∈ l, i < s.nodes.length) → l.filter (fun i => decide (j < ht (addS s p nx e b) i)) = l.filter fun i => decide (j < ht s i) := fun l hl => List.filter_congr fun i hi => by rw [(addS_old (hl i hi)).1]
    rw [f1 _ fun i hi => hmem i (.inl hi), f1 _ fun i hi => hmem i (.inr hi), hnew]
    by_cases hj : j < nx.length
    · rw [if_pos hj, if_pos (by simpa using hj)]
    · rw [if_neg hj, if_neg (by simpa using hj)]
  refine ⟨?_, ?_, ?_, ?_, ?_, ?_⟩
  · exact (insS_nd s p s.nodes.length nx.length).1.trans h.fst
  · rw [addS_len, List.length_append, List.length_cons]
    have := congrArg List.length hsp
    rw [List.length_append] at this
    have := h.len
    omega
  · intro i hi
    rw [addS_len]
    rcases List.mem_append.1 hi with hi | hi
    · have := hmem i (.inl hi); omega
    · rcases List.mem_cons.1 hi with rfl | hi
      · omega
      · have := hmem i (.inr hi); omega
  · have hs := h.srt
    rw [← hsp, List.pairwise_append] at hs
    rw [List.pairwise_append, List.pairwise_cons]
    have old : ∀ i, i < s.nodes.length → ky (addS s p nx e b) i = ky s i := fun i hi => (addS_old hi).2
    have htw : ∀ i ∈ ord.takeWhile (bel s e.k), cmpK (ky s i) e.k < 0 := fun i hi => by
      rw [(tw_filter h.srt).1, List.mem_filter] at hi
      simpa [bel] using hi.2
    have hdw : ∀ i ∈ ord.dropWhile (bel s e.k), cmpK e.k (ky s i) < 0 := fun i hi => by
      have hi' := hi
      rw [(tw_filter h.srt).2, List.mem_filter] at hi
      have h1 : ¬ cmpK (ky s i) e.k < 0 := by simpa [bel] using hi.2
      have h2 := hne i hi.1
      have h3 := cmpK_anti (ky s i) e.k
      omega
    refine ⟨hs.1.imp_of_mem fun {x y} hx hy hxy => by rw [old x (hmem x (.inl hx)), old y (hmem y (.inl hy))]; exact hxy, ⟨fun y hy => by rw [knew, old y (hmem y (.inr hy))]; exact hdw y hy, hs.2.1.imp_of_mem fun {x y} hx hy hxy => by rw [old x (hmem x (.inr hx)), old y (hmem y (.inr hy))]; exact hxy⟩, fun x hx y hy => ?_⟩
    rw [old x (hmem x (.inl hx))]
    rcases List.mem_cons.1 hy with rfl | hy
    · rw [knew]; exact htw x hx
    · rw [old y (hmem y (.inr hy))]; exact hs.2.2 x hx y hy
  · intro x hx
    simp only [addS] at hx
    rcases List.mem_append.1 hx with hx | hx
    · obtain ⟨i, hi⟩ := List.mem_iff_getElem?.1 hx
      have h4 := (insS_nd s p s.nodes.length nx.length).2.2.2 i
      rw [hi] at h4
      cases h2 : s.nodes[i]? with
      | none => rw [h2] at h4; simp at h4
      | some y =>
        rw [h2] at h4
        simp only [Option.map_some, Option.some.injEq, Prod.mk.injEq] at h4
        rw [h4.2]
        exact h.ht y (List.mem_of_getElem? h2)
    · rw [List.mem_singleton] at hx; subst hx; exact hl
  · intro j hj
    rw [hch j]
    have hL := h.lnk j hj
    have hcs := chain_srt (j := j) h
    have hnd := pair_nodup hcs
    have hcm : ∀ x ∈ chain s ord j, x < s.nodes.length := fun x hx => by
      obtain ⟨y, hy, _⟩ := chain_mem h hx
      exact (List.getElem?_eq_some_iff.1 hy).1
    have hsplit : (chain s ord j).takeWhile (bel s e.k) ++ (chain s ord j).dropWhile (bel s e.k) = chain s ord j := List.takeWhile_append_dropWhile
    by_cases hjn : j < nx.length
    · rw [if_pos hjn]
      have hpj : p j = lastA none ((chain s ord j).takeWhile (bel s e.k)) := by
        rw [hp j hjn, pth, lastA_I]
        cases (chain s ord j).takeWhile (bel s e.k) <;> rfl
      refine Lnk.put (s := s) (fun a' v ha' hne' hv => ?_) ?_ ?_ (fun x _ e => by cases e) (by rw [hsplit]; exact hnd) (by rw [hsplit]; exact hL)
      · have hne2 : a' ≠ some s.nodes.length := by
          rcases ha' with rfl | ⟨x, hx, rfl⟩
          · intro e; cases e
          · rw [hsplit] at hx; intro e; injection e with e; have := hcm x hx; omega
        rw [addS_aft hav hpl hne2]
        exact .inr ⟨fun h' => hne' (by rw [h'.2, hpj]), hv⟩
      · rw [← hpj]
        have hne2 : p j ≠ some s.nodes.length := fun e => by have := hpl j _ e; omega
        rw [addS_aft hav hpl hne2]
        exact .inl ⟨hjn, rfl, rfl⟩
      · exact ⟨_, addS_new, hnx j hjn⟩
    · rw [if_neg hjn, hsplit]
      refine hL.keep fun a' v ha' hv => ?_
      have hne2 : a' ≠ some s.nodes.length := by
        rcases ha' with rfl | ⟨x, hx, rfl⟩
        · intro e; cases e
        · intro e; injection e with e; have := hcm x hx; omega
      rw [addS_aft hav hpl hne2]
      exact .inr ⟨fun h' => hjn h'.1, hv⟩
end
end Go.Proofs.Ytoilmnplocfipaa.Sk
