/- Frames, in plain lists: what is written of a record, what is read of any bytes. -/
import Derived.Test.YtebcmkohnebgmaaDoorM6
namespace Go.Proofs.YtebcmkohnebgmaaDoor.Fr
open Go Big Go.RowKit Go.IntWalk
set_option linter.unusedVariables false
set_option linter.unusedSimpArgs false
set_option linter.unusedSectionVars false
abbrev Bytes (xs : List Int) : Prop := ∀ x ∈ xs, (Lit.int .u8 x).wf = true
section
variable {sm : List Int → Int}
/-- A piece and what stands ahead of it; sm: the sum of its kind and bytes, as it is written. -/
def pc (sm : List Int → Int) (k : Int) (x : List Int) : List Int := lowB 4 (sm (k :: x)) ++ (lowB 2 x.length ++ k :: x)
theorem pc_len (k : Int) (x : List Int) : (pc sm k x).length = 7 + x.length := by
  rw [pc, List.length_append, List.length_append, lowB_len, lowB_len, List.length_cons]; omega
def kdN : Bool → Bool → Int
  | true, true => 1
  | true, false => 2
  | false, true => 4
  | false, false => 3
inductive Pieces (sm : List Int → Int) : Nat → Bool → List Int → List Int → Prop
  | last {a : Nat} {f : Bool} {r : List Int} (h : r.length ≤ 121 - a) : Pieces sm a f r (pc sm (kdN f true) r)
  | more {a : Nat} {f : Bool} {r out : List Int} (h : 121 - a < r.length) (t : Pieces sm 0 false (r.drop (121 - a)) out) : Pieces sm a f r (pc sm (kdN f false) (r.take (121 - a)) ++ out)
theorem Pieces.total0 : ∀ (m : Nat) (f : Bool) (r : List Int), r.length ≤ m → ∃ out, Pieces sm 0 f r out := by
  intro m
  induction m with
  | zero => exact fun f r h => ⟨_, .last (by omega)⟩
  | succ m ih =>
    intro f r h
    by_cases h1 : r.length ≤ 121
    · exact ⟨_, .last h1⟩
    · obtain ⟨out, ho⟩ := ih false (r.drop 121) (by rw [List.length_drop]; omega)
      exact ⟨_, .more (a := 0) (by omega) ho⟩
theorem Pieces.total (a : Nat) (f : Bool) (r : List Int) : ∃ out, Pieces sm a f r out := by
  by_cases h1 : r.length ≤ 121 - a
  · exact ⟨_, .last h1⟩
  · obtain ⟨out, ho⟩ := Pieces.total0 (sm := sm) _ false (r.drop (121 - a)) (Nat.le_refl _)
    exact ⟨_, .more (by omega) ho⟩
theorem Pieces.len {a : Nat} {f : Bool} {r out : List Int} (h : Pieces sm a f r out) : 7 + r.length ≤ out.length ∧ (a ≤ 121 → out.length ≤ 14 + 2 * r.length) := by
  have key : ∀ {a f r out}, Pieces sm a f r out → 7 + r.length ≤ out.length ∧ (a ≤ 121 → out.length ≤ 14 + 2 * r.length) ∧ (a = 0 → out.length ≤ 7 + 2 * r.length) := by
    intro a f r out h
    induction h with
    | last h => rw [pc_len]; omega
    | more h t ih => rw [List.length_append, pc_len, List.length_take]; rw [List.length_drop] at ih; omega
  exact ⟨(key h).1, (key h).2.1⟩
theorem lowB_bytes (n : Nat) (x : Int) : Bytes (lowB n x) := lowB_wf n x
theorem kdN_range (f e : Bool) : 1 ≤ kdN f e ∧ kdN f e ≤ 4 := by cases f <;> cases e <;> decide
theorem wf8 {x : Int} (h0 : 0 ≤ x) (h1 : x < 256) : (Lit.int .u8 x).wf = true := by
  have e0 : IntKind.u8.min = 0 := rfl
  have e1 : IntKind.u8.max = 255 := rfl
  simp only [Lit.wf, e0, e1, Bool.and_eq_true, decide_eq_true_eq]
  omega
theorem pc_bytes {k : Int} {x : List Int} (hk : 0 ≤ k ∧ k < 256) (hx : Bytes x) : Bytes (pc sm k x) := by
  intro z hz
  rw [pc, List.mem_append, List.mem_append, List.mem_cons] at hz
  rcases hz with h | h | h | h
  · exact lowB_bytes _ _ z h
  · exact lowB_bytes _ _ z h
  · subst h; exact wf8 hk.1 hk.2
  · exact hx z h
theorem Pieces.bytes {a : Nat} {f : Bool} {r out : List Int} (h : Pieces sm a f r out) (hr : Bytes r) : Bytes out := by
  induction h with
  | last h => exact pc_bytes (by have := kdN_range ‹Bool› true; omega) hr
  | more h t ih =>
    intro z hz
    rcases List.mem_append.1 hz with hz | hz
    · exact pc_bytes (by have := kdN_range ‹Bool› false; omega) (fun z hz => hr z (List.mem_of_mem_take hz)) z hz
    · exact ih (fun z hz => hr z (List.mem_of_mem_drop hz)) z hz
/-- Noughts ahead of a piece at a place. -/
def padN (a : Nat) : Nat := if 121 < a % 128 then 128 - a % 128 else 0
theorem padN_le (a : Nat) : padN a ≤ 6 := by unfold padN; split <;> omega
theorem padN_mod (a : Nat) : (a + padN a) % 128 ≤ 121 := by unfold padN; split <;> omega
theorem padN_zero {a : Nat} (h : a % 128 ≤ 121) : padN a = 0 := by unfold padN; rw [if_neg (by omega)]
theorem padN_twice (a : Nat) : padN (a + padN a) = 0 := padN_zero (padN_mod a)
/-- What is written of a record behind so many bytes. -/
def IsPut (sm : List Int → Int) (size : Nat) (r out : List Int) : Prop := ∃ o, Pieces sm ((size + padN size) % 128) true r o ∧ out = List.replicate (padN size) 0 ++ o
theorem IsPut.total (sm : List Int → Int) (size : Nat) (r : List Int) : ∃ out, IsPut sm size r out := by
  obtain ⟨o, h⟩ := Pieces.total (sm := sm) ((size + padN size) % 128) true r
  exact ⟨_, o, h, rfl⟩
theorem IsPut.bytes {size : Nat} {r out : List Int} (h : IsPut sm size r out) (hr : Bytes r) : Bytes out := by
  obtain ⟨o, h1, rfl⟩ := h
  intro z hz
  rcases List.mem_append.1 hz with hz | hz
  · rw [(List.mem_replicate.1 hz).2]; decide
  · exact h1.bytes hr z hz
theorem IsPut.len {size : Nat} {r out : List Int} (h : IsPut sm size r out) : 7 + r.length ≤ out.length ∧ out.length ≤ 20 + 2 * r.length := by
  obtain ⟨o, h1, rfl⟩ := h
  have := h1.len
  have h2 := this.2 (padN_mod size)
  have h3 := padN_le size
  rw [List.length_append, List.length_replicate]
  omega

/-! ### Reading -/
inductive Stp where
  | stop (c : Int)
  | go (u : Nat) (x : List Int) (m : Bool)
/-- How many bytes the piece tells. -/
def cnt (s : List Int) : Nat := (le ((s.drop 4).take 2)).toNat
def kindAt (s : List Int) : Int := s.getD 6 0
def body (s : List Int) : List Int := (s.drop 7).take (cnt s)
def lookS (sm : List Int → Int) (a : Nat) (s : List Int) (wi : Bool) : Stp :=
  if s = [] then .stop (if wi = true then 1 else 0)
  else if s.length < 7 then .stop 1
  else if 121 - a % 128 < cnt s then .stop 2
  else if s.length < 7 + cnt s then .stop 1
  else if (1 ≤ kindAt s ∧ kindAt s ≤ 4) ∧ le (s.take 4) = sm (kindAt s :: body s) ∧ (wi = true ↔ 3 ≤ kindAt s) then .go (7 + cnt s) (body s) (decide (kindAt s = 2 ∨ kindAt s = 3))
  else .stop 2
def Stp.on (p : Nat) : Stp → Stp
  | .stop c => .stop c
  | .go u x m => .go (p + u) x m
def lookP (sm : List Int → Int) (a : Nat) (s : List Int) (wi : Bool) : Stp :=
  if ∀ z ∈ s.take (padN a), z = 0 then (lookS sm (a + (s.take (padN a)).length) (s.drop (padN a)) wi).on (s.take (padN a)).length else .stop 2
/-- What is read from a place on: records, how many bytes they take, the class of the end. -/
inductive Rd (sm : List Int → Int) : Nat → List Int → Bool → List Int → Nat → List (List Int) → Nat → Int → Prop
  | stop {a : Nat} {s : List Int} {wi : Bool} {now : List Int} {d : Nat} {c : Int} (h : lookP sm a s wi = .stop c) : Rd sm a s wi now d [] d c
  | more {a : Nat} {s : List Int} {wi : Bool} {now : List Int} {d u d' : Nat} {x : List Int} {rs : List (List Int)} {c : Int} (h : lookP sm a s wi = .go u x true) (t : Rd sm (a + u) (s.drop u) true (now ++ x) d rs d' c) : Rd sm a s wi now d rs d' c
  | last {a : Nat} {s : List Int} {wi : Bool} {now : List Int} {d u d' : Nat} {x : List Int} {rs : List (List Int)} {c : Int} (h : lookP sm a s wi = .go u x false) (t : Rd sm (a + u) (s.drop u) false [] (a + u) rs d' c) : Rd sm a s wi now d ((now ++ x) :: rs) d' c
theorem lookS_go {a : Nat} {s : List Int} {wi : Bool} {u : Nat} {x : List Int} {m : Bool} (h : lookS sm a s wi = .go u x m) : 7 ≤ u ∧ u ≤ s.length ∧ x = (s.drop 7).take (u - 7) ∧ u ≤ 128 := by
  unfold lookS at h
  split at h
  · cases h
  split at h
  · cases h
  split at h
  · cases h
  split at h
  · cases h
  split at h
  · injection h with h1 h2 h3
    refine ⟨by omega, by omega, ?_, by omega⟩
    rw [← h2, ← h1, body]
    congr 1; omega
  · cases h
theorem lookP_go {a : Nat} {s : List Int} {wi : Bool} {u : Nat} {x : List Int} {m : Bool} (h : lookP sm a s wi = .go u x m) : 7 ≤ u ∧ u ≤ s.length ∧ u ≤ 134 ∧ x.length + 7 ≤ u ∧ x.length ≤ 121 ∧ ∃ i, x = (s.drop i).take x.length := by
  unfold lookP at h
  split at h
  · generalize hq : lookS sm (a + (s.take (padN a)).length) (s.drop (padN a)) wi = q at h
    cases q with
    | stop c => cases h
    | go u' x' m' =>
      injection h with h1 h2 h3
      subst h1 h2 h3
      have := lookS_go hq
      have hp := padN_le a
      rw [List.length_drop] at this
      have hxl : x'.length ≤ 121 := by rw [this.2.2.1, List.length_take]; omega
      refine ⟨by omega, by rw [List.length_take]; omega, by rw [List.length_take]; omega, by rw [this.2.2.1, List.length_take]; omega, hxl, padN a + 7, ?_⟩
      rw [this.2.2.1, List.drop_drop, List.length_take]
      rw [List.take_eq_take_iff]
      simp only [List.length_drop]
      omega
  · cases h
theorem Rd.total (sm : List Int → Int) : ∀ (m a : Nat) (s : List Int) (wi : Bool) (now : List Int) (d : Nat), s.length ≤ m → ∃ rs d' c, Rd sm a s wi now d rs d' c := by
  intro m
  induction m with
  | zero =>
    intro a s wi now d h
    generalize hq : lookP sm a s wi = q
    cases q with
    | stop c => exact ⟨_, _, _, .stop hq⟩
    | go u x b => have := lookP_go hq; omega
  | succ m ih =>
    intro a s wi now d h
    generalize hq : lookP sm a s wi = q
    cases q with
    | stop c => exact ⟨_, _, _, .stop hq⟩
    | go u x b =>
      have hg := lookP_go hq
      cases b with
      | true =>
        obtain ⟨rs, d', c, ht⟩ := ih (a + u) (s.drop u) true (now ++ x) d (by rw [List.length_drop]; omega)
        exact ⟨_, _, _, .more hq ht⟩
      | false =>
        obtain ⟨rs, d', c, ht⟩ := ih (a + u) (s.drop u) false [] (a + u) (by rw [List.length_drop]; omega)
        exact ⟨_, _, _, .last hq ht⟩
theorem Rd.det {a : Nat} {s : List Int} {wi : Bool} {now : List Int} {d d1 : Nat} {rs : List (List Int)} {c : Int} (h : Rd sm a s wi now d rs d1 c) : ∀ {rs' : List (List Int)} {d2 : Nat} {c' : Int}, Rd sm a s wi now d rs' d2 c' → rs = rs' ∧ d1 = d2 ∧ c = c' := by
  induction h with
  | stop h =>
    intro rs' d2 c' h'
    cases h' with
    | stop g => rw [h] at g; injection g with g; exact ⟨rfl, rfl, g⟩
    | more g _ => rw [h] at g; cases g
    | last g _ => rw [h] at g; cases g
  | more h t ih =>
    intro rs' d2 c' h'
    cases h' with
    | stop g => rw [h] at g; cases g
    | more g t' => rw [h] at g; injection g with g1 g2; subst g1 g2; exact ih t'
    | last g _ => rw [h] at g; injection g with _ _ g3; cases g3
  | last h t ih =>
    intro rs' d2 c' h'
    cases h' with
    | stop g => rw [h] at g; cases g
    | more g _ => rw [h] at g; injection g with _ _ g3; cases g3
    | last g t' =>
      rw [h] at g; injection g with g1 g2; subst g1 g2
      obtain ⟨e1, e2, e3⟩ := ih t'
      exact ⟨by rw [e1], e2, e3⟩
/-! ### What was written is read -/
theorem pc_cons (k : Int) (x : List Int) : ∃ a b c d e f : Int, lowB 4 (sm (k :: x)) = [a, b, c, d] ∧ lowB 2 x.length = [e, f] ∧ pc sm k x = a :: b :: c :: d :: e :: f :: k :: x := ⟨_, _, _, _, _, _, rfl, rfl, rfl⟩
theorem lookS_pc (hsm : ∀ l, 0 ≤ sm l ∧ sm l < 2 ^ 32) {a : Nat} {k : Int} {x rest : List Int} {wi : Bool} (hk : 1 ≤ k ∧ k ≤ 4) (hl : x.length ≤ 121 - a % 128) (hw : wi = true ↔ 3 ≤ k) :
    lookS sm a (pc sm k x ++ rest) wi = .go (7 + x.length) x (decide (k = 2 ∨ k = 3)) := by
  obtain ⟨b0, b1, b2, b3, b4, b5, e1, e2, e3⟩ := pc_cons (sm := sm) k x
  have hcnt : cnt (pc sm k x ++ rest) = x.length := by
    rw [e3]
    show (le [b4, b5]).toNat = _
    rw [← e2, le_lowB 2 (by omega) (by omega)]; omega
  have h4 : le ((pc sm k x ++ rest).take 4) = sm (k :: x) := by
    rw [e3]
    show le [b0, b1, b2, b3] = _
    rw [← e1, le_lowB 4 (hsm _).1 (hsm _).2]
  have hkd : kindAt (pc sm k x ++ rest) = k := by rw [e3]; rfl
  have hb : body (pc sm k x ++ rest) = x := by
    have e5 : (pc sm k x ++ rest).drop 7 = x ++ rest := by rw [e3]; rfl
    rw [body, hcnt, e5, List.take_left']; rfl
  have hlen : (pc sm k x ++ rest).length = 7 + x.length + rest.length := by rw [List.length_append, pc_len]
  unfold lookS
  rw [if_neg (by intro h; rw [h, List.length_nil] at hlen; omega), if_neg (by omega), hcnt, if_neg (by omega), if_neg (by omega), hkd, hb, h4, if_pos ⟨hk, rfl, hw⟩]
theorem lookS_short {a : Nat} {k : Int} {x rest : List Int} {wi : Bool} {m : Nat} (hl : x.length ≤ 121 - a % 128) (hm : m < 7 + x.length) : ∃ c, lookS sm a ((pc sm k x ++ rest).take m) wi = .stop c ∧ c ≠ 2 := by
  obtain ⟨b0, b1, b2, b3, b4, b5, e1, e2, e3⟩ := pc_cons (sm := sm) k x
  have hlen : ((pc sm k x ++ rest).take m).length = m := by rw [List.length_take, List.length_append, pc_len]; omega
  unfold lookS
  by_cases h0 : (pc sm k x ++ rest).take m = []
  · rw [if_pos h0]; exact ⟨_, rfl, by split <;> decide⟩
  rw [if_neg h0]
  by_cases h7 : m < 7
  · rw [if_pos (by omega)]; exact ⟨_, rfl, by decide⟩
  rw [if_neg (by omega)]
  obtain ⟨q, rfl⟩ : ∃ q, m = q + 7 := ⟨m - 7, by omega⟩
  have hcnt : cnt ((pc sm k x ++ rest).take (q + 7)) = x.length := by
    rw [e3]
    show (le [b4, b5]).toNat = _
    rw [← e2, le_lowB 2 (by omega) (by omega)]; omega
  rw [hcnt, if_neg (by omega), if_pos (by omega)]
  exact ⟨_, rfl, by decide⟩
theorem lookP_flat {a : Nat} {s : List Int} {wi : Bool} (h : padN a = 0) : lookP sm a s wi = lookS sm a s wi := by
  unfold lookP
  rw [h]
  simp only [List.take_zero, List.not_mem_nil, false_implies, implies_true, if_true, List.length_nil, Nat.add_zero, List.drop_zero]
  cases lookS sm a s wi with
  | stop c => rfl
  | go u x m => simp [Stp.on]
theorem lookP_pad {a : Nat} {t : List Int} {wi : Bool} : lookP sm a (List.replicate (padN a) 0 ++ t) wi = (lookS sm (a + padN a) t wi).on (padN a) := by
  unfold lookP
  have e1 : (List.replicate (padN a) (0 : Int) ++ t).take (padN a) = List.replicate (padN a) 0 := by simp
  have e2 : (List.replicate (padN a) (0 : Int) ++ t).drop (padN a) = t := by simp
  rw [e1, e2, List.length_replicate, if_pos (fun z hz => (List.mem_replicate.1 hz).2)]
theorem Rd.pad {a : Nat} {t : List Int} {wi : Bool} {now : List Int} {d d' : Nat} {rs : List (List Int)} {c : Int} (h : Rd sm (a + padN a) t wi now d rs d' c) : Rd sm a (List.replicate (padN a) 0 ++ t) wi now d rs d' c := by
  have hd : ∀ u, (List.replicate (padN a) (0 : Int) ++ t).drop (padN a + u) = t.drop u := fun u => by
    rw [← List.drop_drop]; simp
  cases h with
  | stop h =>
    rw [lookP_flat (padN_twice a)] at h
    exact .stop (by rw [lookP_pad, h]; rfl)
  | more h ht =>
    rw [lookP_flat (padN_twice a)] at h
    refine .more (by rw [lookP_pad, h]; rfl) ?_
    rw [hd, ← Nat.add_assoc]; exact ht
  | last h ht =>
    rw [lookP_flat (padN_twice a)] at h
    refine .last (by rw [lookP_pad, h]; rfl) ?_
    rw [hd, ← Nat.add_assoc]; exact ht
theorem Rd.pieces (hsm : ∀ l, 0 ≤ sm l ∧ sm l < 2 ^ 32) {a : Nat} {f : Bool} {r out : List Int} (h : Pieces sm a f r out) : ∀ {at_ : Nat} {rest : List Int} {now : List Int} {d d' : Nat} {rs : List (List Int)} {c : Int}, at_ % 128 = a → a ≤ 121 →
    Rd sm (at_ + out.length) rest false [] (at_ + out.length) rs d' c → Rd sm at_ (out ++ rest) (!f) now d ((now ++ r) :: rs) d' c := by
  induction h with
  | @last a f r h =>
    intro at_ rest now d d' rs c ha h121 ht
    subst ha
    rw [pc_len] at ht
    have hl := lookS_pc hsm (a := at_) (rest := rest) (wi := !f) (kdN_range f true) h (by cases f <;> decide)
    have hm : decide (kdN f true = 2 ∨ kdN f true = 3) = false := by cases f <;> decide
    rw [hm] at hl
    refine .last (by rw [lookP_flat (padN_zero h121)]; exact hl) ?_
    rw [List.drop_append_of_le_length (by rw [pc_len]; omega), List.drop_of_length_le (by rw [pc_len]; omega), List.nil_append]
    exact ht
  | @more a f r out h t ih =>
    intro at_ rest now d d' rs c ha h121 ht
    subst ha
    have hx : (r.take (121 - at_ % 128)).length = 121 - at_ % 128 := by rw [List.length_take]; omega
    rw [List.length_append, pc_len, hx] at ht
    have hl := lookS_pc hsm (a := at_) (x := r.take (121 - at_ % 128)) (rest := out ++ rest) (wi := !f) (kdN_range f false) (by omega) (by cases f <;> decide)
    have hm : decide (kdN f false = 2 ∨ kdN f false = 3) = true := by cases f <;> decide
    rw [hm, hx] at hl
    have key := ih (at_ := at_ + (7 + (121 - at_ % 128))) (rest := rest) (now := now ++ r.take (121 - at_ % 128)) (d := d) (d' := d') (rs := rs) (c := c) (by omega) (by omega) (by rw [show at_ + (7 + (121 - at_ % 128)) + out.length = at_ + (7 + (121 - at_ % 128) + out.length) by omega]; exact ht)
    rw [List.append_assoc, List.take_append_drop] at key
    rw [List.append_assoc]
    refine .more (by rw [lookP_flat (padN_zero h121)]; exact hl) ?_
    have hd : (pc sm (kdN f false) (r.take (121 - at_ % 128)) ++ (out ++ rest)).drop (7 + (121 - at_ % 128)) = out ++ rest := by
      rw [List.drop_append_of_le_length (by rw [pc_len]; omega), List.drop_of_length_le (by rw [pc_len]; omega), List.nil_append]
    rw [hd]
    exact key
theorem Rd.isPut (hsm : ∀ l, 0 ≤ sm l ∧ sm l < 2 ^ 32) {a : Nat} {r out : List Int} (h : IsPut sm a r out) {rest : List Int} {d d' : Nat} {rs : List (List Int)} {c : Int} (ht : Rd sm (a + out.length) rest false [] (a + out.length) rs d' c) : Rd sm a (out ++ rest) false [] d (r :: rs) d' c := by
  obtain ⟨o, h1, rfl⟩ := h
  rw [List.length_append, List.length_replicate, ← Nat.add_assoc] at ht
  rw [List.append_assoc]
  have := Rd.pieces hsm h1 (at_ := a + padN a) (now := []) (d := d) rfl (padN_mod a) ht
  exact Rd.pad this
theorem Rd.tornP {a : Nat} {f : Bool} {r out : List Int} (hsm : ∀ l, 0 ≤ sm l ∧ sm l < 2 ^ 32) (h : Pieces sm a f r out) : ∀ {at_ m : Nat} {now : List Int} {d : Nat}, at_ % 128 = a → a ≤ 121 → m < out.length → ∃ c, Rd sm at_ (out.take m) (!f) now d [] d c ∧ c ≠ 2 := by
  induction h with
  | @last a f r h =>
    intro at_ m now d ha h121 hm
    subst ha
    rw [pc_len] at hm
    obtain ⟨c, h1, h2⟩ := lookS_short (sm := sm) (a := at_) (k := kdN f true) (x := r) (rest := []) (wi := !f) (m := m) h hm
    rw [List.append_nil] at h1
    exact ⟨c, .stop (by rw [lookP_flat (padN_zero h121)]; exact h1), h2⟩
  | @more a f r out h t ih =>
    intro at_ m now d ha h121 hm
    subst ha
    have hx : (r.take (121 - at_ % 128)).length = 121 - at_ % 128 := by rw [List.length_take]; omega
    rw [List.length_append, pc_len, hx] at hm
    by_cases hs : m < 7 + (121 - at_ % 128)
    · obtain ⟨c, h1, h2⟩ := lookS_short (sm := sm) (a := at_) (k := kdN f false) (x := r.take (121 - at_ % 128)) (rest := out) (wi := !f) (m := m) (by omega) (by omega)
      exact ⟨c, .stop (by rw [lookP_flat (padN_zero h121)]; exact h1), h2⟩
    · have e : (pc sm (kdN f false) (r.take (121 - at_ % 128)) ++ out).take m = pc sm (kdN f false) (r.take (121 - at_ % 128)) ++ out.take (m - (7 + (121 - at_ % 128))) := by
        rw [List.take_append, List.take_of_length_le (by rw [pc_len]; omega), pc_len, hx]
      obtain ⟨c, h1, h2⟩ := ih (at_ := at_ + (7 + (121 - at_ % 128))) (m := m - (7 + (121 - at_ % 128))) (now := now ++ r.take (121 - at_ % 128)) (d := d) (by omega) (by omega) (by omega)
      have hl := lookS_pc hsm (a := at_) (x := r.take (121 - at_ % 128)) (rest := out.take (m - (7 + (121 - at_ % 128)))) (wi := !f) (kdN_range f false) (by omega) (by cases f <;> decide)
      have hm : decide (kdN f false = 2 ∨ kdN f false = 3) = true := by cases f <;> decide
      rw [hm, hx] at hl
      refine ⟨c, ?_, h2⟩
      rw [e]
      refine .more (by rw [lookP_flat (padN_zero h121)]; exact hl) ?_
      have hd : (pc sm (kdN f false) (r.take (121 - at_ % 128)) ++ out.take (m - (7 + (121 - at_ % 128)))).drop (7 + (121 - at_ % 128)) = out.take (m - (7 + (121 - at_ % 128))) := by
        rw [List.drop_append_of_le_length (by rw [pc_len]; omega), List.drop_of_length_le (by rw [pc_len]; omega), List.nil_append]
      rw [hd]
      exact h1
theorem Rd.torn (hsm : ∀ l, 0 ≤ sm l ∧ sm l < 2 ^ 32) {a : Nat} {r out : List Int} (h : IsPut sm a r out) {m d : Nat} (hm : m < out.length) : ∃ c, Rd sm a (out.take m) false [] d [] d c ∧ c ≠ 2 := by
  obtain ⟨o, h1, rfl⟩ := h
  rw [List.length_append, List.length_replicate] at hm
  by_cases hp : m < padN a
  · refine ⟨0, .stop ?_, by decide⟩
    have e : (List.replicate (padN a) (0 : Int) ++ o).take m = List.replicate m 0 := by
      rw [List.take_append_of_le_length (by rw [List.length_replicate]; omega), List.take_replicate]
      congr 1; omega
    unfold lookP
    rw [e, if_pos (fun z hz => (List.mem_replicate.1 (List.mem_of_mem_take hz)).2), List.drop_of_length_le (by rw [List.length_replicate]; omega)]
    unfold lookS
    rw [if_pos rfl]; rfl
  · have e : (List.replicate (padN a) (0 : Int) ++ o).take m = List.replicate (padN a) 0 ++ o.take (m - padN a) := by
      rw [List.take_append, List.take_of_length_le (by rw [List.length_replicate]; omega), List.length_replicate]
    obtain ⟨c, h2, h3⟩ := Rd.tornP hsm h1 (at_ := a + padN a) (m := m - padN a) (now := []) (d := d) rfl (padN_mod a) (by omega)
    exact ⟨c, by rw [e]; exact Rd.pad h2, h3⟩

/-! ### Logs -/
inductive IsLog (sm : List Int → Int) : Nat → List (List Int) → List Int → List Nat → Prop
  | nil {a : Nat} : IsLog sm a [] [] []
  | cons {a : Nat} {r o b : List Int} {rs : List (List Int)} {es : List Nat} (h : IsPut sm a r o) (t : IsLog sm (a + o.length) rs b es) : IsLog sm a (r :: rs) (o ++ b) ((a + o.length) :: es)
theorem IsLog.snoc {a : Nat} {r o b : List Int} {rs : List (List Int)} {es : List Nat} (h : IsLog sm a rs b es) : IsPut sm (a + b.length) r o → IsLog sm a (rs ++ [r]) (b ++ o) (es ++ [a + b.length + o.length]) := by
  induction h with
  | nil =>
    intro hp
    have := IsLog.cons (sm := sm) hp .nil
    simpa using this
  | cons h t ih =>
    intro hp
    rw [List.length_append, ← Nat.add_assoc] at hp
    have := IsLog.cons h (ih hp)
    rw [List.cons_append, List.cons_append, List.append_assoc, List.length_append]
    rw [← Nat.add_assoc] 
    exact this
theorem IsLog.bytes {a : Nat} {b : List Int} {rs : List (List Int)} {es : List Nat} (h : IsLog sm a rs b es) : (∀ r ∈ rs, Bytes r) → Bytes b := by
  induction h with
  | nil => intro _ z hz; cases hz
  | cons h t ih =>
    intro hr z hz
    rcases List.mem_append.1 hz with hz | hz
    · exact h.bytes (hr _ List.mem_cons_self) z hz
    · exact ih (fun r hr' => hr r (List.mem_cons_of_mem _ hr')) z hz
theorem Rd.log (hsm : ∀ l, 0 ≤ sm l ∧ sm l < 2 ^ 32) {a : Nat} {b : List Int} {rs : List (List Int)} {es : List Nat} (h : IsLog sm a rs b es) : ∀ {rest : List Int} {d d' : Nat} {rs' : List (List Int)} {c : Int},
    Rd sm (a + b.length) rest false [] (if rs = [] then d else a + b.length) rs' d' c → Rd sm a (b ++ rest) false [] d (rs ++ rs') d' c := by
  induction h with
  | nil => intro rest d d' rs' c ht; simpa using ht
  | @cons a r o b rs es h t ih =>
    intro rest d d' rs' c ht
    rw [List.append_assoc, List.cons_append]
    refine Rd.isPut hsm h (ih ?_)
    rw [if_neg (by simp), List.length_append, ← Nat.add_assoc] at ht
    by_cases hn : rs = []
    · subst hn
      cases t
      rw [if_pos rfl]
      simpa using ht
    · rw [if_neg hn]; exact ht
theorem Rd.whole (hsm : ∀ l, 0 ≤ sm l ∧ sm l < 2 ^ 32) {b : List Int} {rs : List (List Int)} {es : List Nat} (h : IsLog sm 0 rs b es) : Rd sm 0 b false [] 0 rs b.length 0 := by
  have h1 : Rd sm (0 + b.length) [] false [] (if rs = [] then 0 else 0 + b.length) [] b.length 0 := by
    have hl : lookP sm (0 + b.length) [] false = .stop 0 := by
      unfold lookP lookS
      simp [Stp.on]
    have := Rd.stop (sm := sm) (now := []) (d := b.length) hl
    by_cases hn : rs = []
    · subst hn; cases h; exact this
    · rw [if_neg hn, Nat.zero_add] at *; exact this
  have := Rd.log hsm h (rest := []) (d := 0) h1
  simpa using this
def upTo (es : List Nat) (t : Nat) : Nat := (es.takeWhile fun e => decide (e ≤ t)).length
theorem Rd.cutLog (hsm : ∀ l, 0 ≤ sm l ∧ sm l < 2 ^ 32) {a : Nat} {b : List Int} {rs : List (List Int)} {es : List Nat} (h : IsLog sm a rs b es) : ∀ {m d : Nat}, m ≤ b.length → ∃ d' c, Rd sm a (b.take m) false [] d (rs.take (upTo es (a + m))) d' c ∧ c ≠ 2 := by
  induction h with
  | nil =>
    intro m d hm
    have hl : ∀ a, lookP sm a [] false = .stop 0 := fun a => by
      unfold lookP lookS
      simp [Stp.on]
    exact ⟨d, 0, by simpa using Rd.stop (sm := sm) (now := []) (d := d) (hl _), by decide⟩
  | @cons a r o b rs es h t ih =>
    intro m d hm
    rw [List.length_append] at hm
    by_cases ho : o.length ≤ m
    · obtain ⟨d', c, h1, h2⟩ := ih (m := m - o.length) (d := a + o.length) (by omega)
      have e : (o ++ b).take m = o ++ b.take (m - o.length) := by rw [List.take_append, List.take_of_length_le ho]
      have e2 : upTo ((a + o.length) :: es) (a + m) = upTo es (a + o.length + (m - o.length)) + 1 := by
        unfold upTo
        rw [List.takeWhile_cons_of_pos (by simp; omega), List.length_cons, show a + o.length + (m - o.length) = a + m by omega]
      rw [e, e2, List.take_succ_cons]
      exact ⟨d', c, Rd.isPut hsm h h1, h2⟩
    · obtain ⟨c, h1, h2⟩ := Rd.torn hsm h (m := m) (d := d) (by omega)
      have e : (o ++ b).take m = o.take m := by rw [List.take_append_of_le_length (by omega)]
      have e2 : upTo ((a + o.length) :: es) (a + m) = 0 := by
        unfold upTo
        rw [List.takeWhile_cons_of_neg (by simp; omega)]; rfl
      rw [e, e2, List.take_zero]
      exact ⟨d, c, h1, h2⟩
theorem Rd.turned (hsm : ∀ l, 0 ≤ sm l ∧ sm l < 2 ^ 32) {a : Nat} {b : List Int} {rs : List (List Int)} {es : List Nat} (h : IsLog sm a rs b es) : ∀ {m d : Nat} {b2 : List Int}, b2.take m = b.take m → b2.length = b.length → ∃ rs' d' c, Rd sm a b2 false [] d (rs.take (upTo es (a + m)) ++ rs') d' c := by
  induction h with
  | nil =>
    intro m d b2 h1 h2
    obtain ⟨rs', d', c, h⟩ := Rd.total sm _ _ b2 false [] d (Nat.le_refl _)
    exact ⟨rs', d', c, by simpa using h⟩
  | @cons a r o b rs es h t ih =>
    intro m d b2 hb h2
    by_cases ho : o.length ≤ m
    · have e0 : b2.take o.length = o := by
        have := congrArg (List.take o.length) hb
        rw [List.take_take, List.take_take, Nat.min_eq_left ho] at this
        rw [this, List.take_left']; rfl
      have e1 : b2 = o ++ b2.drop o.length := by
        have := List.take_append_drop o.length b2
        rw [e0] at this; exact this.symm
      have hb' : (b2.drop o.length).take (m - o.length) = b.take (m - o.length) := by
        have := congrArg (List.drop o.length) hb
        rw [List.drop_take, List.drop_take] at this
        simpa using this
      obtain ⟨rs', d', c, h1⟩ := ih (m := m - o.length) (d := a + o.length) (b2 := b2.drop o.length) hb' (by rw [List.length_drop, h2, List.length_append]; omega)
      have e2 : upTo ((a + o.length) :: es) (a + m) = upTo es (a + o.length + (m - o.length)) + 1 := by
        unfold upTo
        rw [List.takeWhile_cons_of_pos (by simp; omega), List.length_cons, show a + o.length + (m - o.length) = a + m by omega]
      rw [e1, e2, List.take_succ_cons]
      exact ⟨rs', d', c, Rd.isPut hsm h h1⟩
    · obtain ⟨rs', d', c, h1⟩ := Rd.total sm _ a b2 false [] d (Nat.le_refl _)
      have e2 : upTo ((a + o.length) :: es) (a + m) = 0 := by
        unfold upTo
        rw [List.takeWhile_cons_of_neg (by simp; omega)]; rfl
      rw [e2, List.take_zero]
      exact ⟨rs', d', c, h1⟩
end
end Go.Proofs.YtebcmkohnebgmaaDoor.Fr
