/- What may turn: a set of blocks; rows of structs that are read, and rows of the call's own. -/
import Derived.Test.YtdcdgmiojlldaaaM1
namespace Go.Proofs.Ytdcdgmiojlldaaa.Big
open Go Go.RowKit
set_option linter.unusedVariables false
set_option linter.unusedSimpArgs false

/-- Of what was there only the blocks of S may be another. -/
structure Gx (S : Nat → Prop) (w w' : World) : Prop where
  os : w'.os = w.os
  tape : w'.tape = w.tape
  output : w'.output = w.output
  size : w.heap.size ≤ w'.heap.size
  block : ∀ k, k < w.heap.size → ¬ S k → w'.heap[k]? = w.heap[k]?
abbrev On (v : Value) : Nat → Prop := fun k => v.ownBlock = some k
section
variable {S S' : Nat → Prop} {w w1 w2 : World}
theorem Gx.rfl' (S : Nat → Prop) (w : World) : Gx S w w := ⟨rfl, rfl, rfl, Nat.le_refl _, fun _ _ _ => rfl⟩
theorem Gx.tr' (h : Gx S w w1) (h' : Gx S' w1 w2) (hs : ∀ k, k < w.heap.size → S' k → S k) : Gx S w w2 :=
  ⟨h'.os.trans h.os, h'.tape.trans h.tape, h'.output.trans h.output, Nat.le_trans h.size h'.size,
    fun k hk hn => (h'.block k (Nat.lt_of_lt_of_le hk h.size) (fun x => hn (hs k hk x))).trans (h.block k hk hn)⟩
theorem Gx.tr (h : Gx S w w1) (h' : Gx S w1 w2) : Gx S w w2 := h.tr' h' fun _ _ x => x
theorem Gx.wide (h : Gx S w w1) (hs : ∀ k, k < w.heap.size → S k → S' k) : Gx S' w w1 :=
  ⟨h.os, h.tape, h.output, h.size, fun k hk hn => h.block k hk fun x => hn (hs k hk x)⟩
theorem Kp.gx (h : Kp w w1) : Gx S w w1 := ⟨h.os, h.tape, h.output, h.size, fun k hk _ => h.block k hk⟩
theorem Gx.kp (h : Gx S w w1) (hs : ∀ k, S k → w.heap.size ≤ k) : Kp w w1 :=
  ⟨h.os, h.tape, h.output, h.size, fun k hk => h.block k hk fun x => by have := hs k x; omega⟩
/-- Behind what was kept: blocks that are new do not count. -/
theorem Kp.tx (h : Kp w w1) (h' : Gx S w1 w2) (hs : ∀ k, S k → w.heap.size ≤ k) : Kp w w2 :=
  (h.gx (S := S)).tr h' |>.kp hs
theorem Gx.dr (h : Gx S w w1) : Gx S w w1.drew := ⟨h.os, h.tape, h.output, h.size, h.block⟩
theorem Gx.al (h : Gx S w w1) (o : Obj) : Gx S w (w1.alloc o) :=
  h.tr ((Kp.rfl' w1).al o).gx
theorem Gx.st (h : Gx S w w1) {a : Addr} (ha : a.block < w.heap.size → S a.block) (v : Value) : Gx S w (w1.setCell a v) :=
  h.tr' (S' := fun k => k = a.block) ⟨rfl, rfl, rfl, by simp [World.setCell], fun k _ hk => Below.heap_setCell _ _ _ _ hk⟩ fun k hk e => by subst e; exact ha hk
theorem Gx.gr (h : Gx S w w1) {row : Option Nat} (hg : w1.grownBy w2 row) (hs : ∀ k, k < w.heap.size → row = some k → S k) : Gx S w w2 :=
  h.tr' (S' := fun k => row = some k) ⟨hg.os, hg.tape, hg.output, hg.size, fun k hk hn => hg.block k hk fun e => hn e.symm⟩ hs
theorem Gx.of_grown {row : Option Nat} (hg : w.grownBy w1 row) : Gx (fun k => row = some k) w w1 := (Gx.rfl' _ w).gr hg fun _ _ e => e
theorem Gx.grown {v : Value} (h : Gx (On v) w w1) : w.grownBy w1 v.ownBlock := ⟨h.os, h.tape, h.output, h.size, fun k hk hn => h.block k hk fun e => hn e.symm⟩
theorem Gx.cell (h : Gx S w w1) {a : Addr} {v : Value} (hc : w.cell? a = some v) (hn : ¬ S a.block) : w1.cell? a = some v := by
  rw [World.cell?_of_block (w := w) (h.block _ (World.block_lt_of_cell? w _ hc) hn)]; exact hc
theorem Gx.frozen (h : Gx S w w1) {a : Addr} (hl : a.block < w.heap.size) (hn : ¬ S a.block) : w1.frozen? a = w.frozen? a :=
  World.frozen?_of_block (w := w) (h.block _ hl hn)
/-- It holds, and goes on to hold whatever else is written outside of S's blocks .. that is: if only S's blocks turn. -/
def Stb (S : Nat → Prop) (R : World → Prop) (w : World) : Prop := ∀ w', Gx S w w' → R w'
theorem Stb.out {R : World → Prop} (h : Stb S R w) : R w := h w (Gx.rfl' S w)
theorem Stb.on {R : World → Prop} (h : Stb S R w) (hg : Gx S w w1) : Stb S R w1 := fun w' h' => h w' (hg.tr h')
theorem Stb.less {R : World → Prop} (h : Stb S R w) (hs : ∀ k, k < w.heap.size → S' k → S k) : Stb S' R w := fun w' h' => h w' (h'.wide hs)
theorem Stb.kp {R : World → Prop} (h : Stb S R w) (hg : Kp w w1) : Stb S R w1 := h.on hg.gx
end
theorem Sl.gx {k : IntKind} {S : Nat → Prop} {w w' : World} {A : Option Addr} {l : Nat} {xs : List Int} (h : Sl k w A l xs) (hg : Gx S w w') (hn : ∀ a, A = some a → ¬ S a.block) : Sl k w' A l xs := by
  refine ⟨h.1, h.2.imp id ?_⟩
  rintro ⟨a, rfl, hc⟩
  exact ⟨a, rfl, fun i hi => hg.cell (hc i hi) (by have e : (a.add i).block = a.block := by (unfold Addr.add; split <;> rfl)
                                                   rw [e]; exact hn a rfl)⟩
theorem add_block (a : Addr) (i : Nat) : (a.add i).block = a.block := by unfold Addr.add; split <;> rfl

/-! ### Rows of structs -/
structure El (α : Type) where
  sz : Nat
  rd : World → List Value → α → Prop
  kp : ∀ {w w' : World} {vs : List Value} {x : α}, Kp w w' → rd w vs x → rd w' vs x
  one : ∀ {w : World} {vs : List Value} {x : α}, rd w vs x → ∀ u ∈ vs, u.oneCell' = true
section
variable {α : Type} {E : El α} {w w' : World} {vs us : List Value} {xs ys : List α}
def Rows (E : El α) (w : World) : List Value → List α → Prop
  | vs, [] => vs = []
  | vs, x :: xs => ∃ a b, vs = a ++ b ∧ a.length = E.sz ∧ E.rd w a x ∧ Rows E w b xs
theorem Rows.len : ∀ {xs : List α} {vs : List Value}, Rows E w vs xs → vs.length = xs.length * E.sz
  | [], vs, h => by have h : vs = [] := h; subst h; simp
  | x :: xs, vs, h => by
    obtain ⟨a, b, rfl, h1, _, h2⟩ := h
    rw [List.length_append, h1, Rows.len h2, List.length_cons, Nat.add_mul, Nat.one_mul, Nat.add_comm]
theorem Rows.map {E' : El α} {w' : World} (hz : E'.sz = E.sz) (hf : ∀ a x, E.rd w a x → E'.rd w' a x) : ∀ {xs : List α} {vs : List Value}, Rows E w vs xs → Rows E' w' vs xs
  | [], vs, h => h
  | x :: xs, vs, h => by
    obtain ⟨a, b, rfl, h1, h2, h3⟩ := h
    exact ⟨a, b, rfl, h1.trans hz.symm, hf _ _ h2, Rows.map hz hf h3⟩
theorem Rows.ones : ∀ {xs : List α} {vs : List Value}, Rows E w vs xs → ∀ u ∈ vs, u.oneCell' = true
  | [], vs, h, u, hu => by have h : vs = [] := h; subst h; cases hu
  | x :: xs, vs, h, u, hu => by
    obtain ⟨a, b, rfl, h1, h2, h3⟩ := h
    rcases List.mem_append.1 hu with h | h
    · exact E.one h2 u h
    · exact Rows.ones h3 u h
theorem Rows.kp (h : Rows E w vs xs) (hk : Kp w w') : Rows E w' vs xs := h.map rfl fun _ _ => E.kp hk
theorem Rows.app : ∀ {xs : List α} {vs : List Value}, Rows E w vs xs → Rows E w us ys → Rows E w (vs ++ us) (xs ++ ys)
  | [], vs, h, h' => by have h : vs = [] := h; subst h; exact h'
  | x :: xs, vs, h, h' => by
    obtain ⟨a, b, rfl, h1, h2, h3⟩ := h
    exact ⟨a, b ++ us, by simp, h1, h2, Rows.app h3 h'⟩
theorem Rows.one {x : α} (h : E.rd w vs x) (hl : vs.length = E.sz) : Rows E w vs [x] := ⟨vs, [], by simp, hl, h, rfl⟩
theorem Rows.at_ : ∀ {xs : List α} {vs : List Value} {i : Nat}, Rows E w vs xs → i < xs.length → ∃ x a, xs[i]? = some x ∧ a.length = E.sz ∧ E.rd w a x ∧ ∀ j u, a[j]? = some u → vs[i * E.sz + j]? = some u
  | [], vs, i, h, hi => by simp at hi
  | x :: xs, vs, i, h, hi => by
    obtain ⟨a, b, rfl, h1, h2, h3⟩ := h
    cases i with
    | zero => exact ⟨x, a, rfl, h1, h2, fun j u hu => by rw [Nat.zero_mul, Nat.zero_add]; exact List.getElem?_append_left (List.getElem?_eq_some_iff.1 hu).1 ▸ hu⟩
    | succ i =>
      obtain ⟨y, c, h4, h5, h6, h7⟩ := Rows.at_ h3 (by simpa using hi)
      refine ⟨y, c, by simpa using h4, h5, h6, fun j u hu => ?_⟩
      rw [List.getElem?_append_right (by rw [h1, Nat.add_mul, Nat.one_mul]; omega), h1, show (i + 1) * E.sz + j - E.sz = i * E.sz + j by rw [Nat.add_mul, Nat.one_mul]; omega]
      exact h7 j u hu
theorem Rows.take : ∀ {xs : List α} {vs : List Value} (n : Nat), Rows E w vs xs → Rows E w (vs.take (n * E.sz)) (xs.take n)
  | [], vs, n, h => by have h : vs = [] := h; subst h; simp [Rows]
  | x :: xs, vs, 0, h => by simp [Rows]
  | x :: xs, vs, n + 1, h => by
    obtain ⟨a, b, rfl, h1, h2, h3⟩ := h
    refine ⟨a, b.take (n * E.sz), ?_, h1, h2, Rows.take n h3⟩
    rw [List.take_append, List.take_of_length_le (by rw [h1, Nat.add_mul, Nat.one_mul]; omega), h1, show (n + 1) * E.sz - E.sz = n * E.sz by rw [Nat.add_mul, Nat.one_mul]; omega]
theorem Rows.drop : ∀ {xs : List α} {vs : List Value} (n : Nat), Rows E w vs xs → Rows E w (vs.drop (n * E.sz)) (xs.drop n)
  | [], vs, n, h => by have h : vs = [] := h; subst h; simp [Rows]
  | x :: xs, vs, 0, h => by simpa using h
  | x :: xs, vs, n + 1, h => by
    obtain ⟨a, b, rfl, h1, h2, h3⟩ := h
    rw [List.drop_append, List.drop_of_length_le (by rw [h1, Nat.add_mul, Nat.one_mul]; omega), h1, show (n + 1) * E.sz - E.sz = n * E.sz by rw [Nat.add_mul, Nat.one_mul]; omega]
    exact Rows.drop n h3
/-- A slice that reads as a list. -/
def SlE (E : El α) (w : World) (A : Option Addr) (l : Nat) (xs : List α) : Prop :=
  xs.length = l ∧ (xs = [] ∨ ∃ a vs, A = some a ∧ Rows E w vs xs ∧ ∀ j v, vs[j]? = some v → w.cell? (a.add j) = some v)
variable {A : Option Addr} {l c : Nat}
theorem SlE.nil (w : World) (A : Option Addr) : SlE E w A 0 [] := ⟨rfl, .inl rfl⟩
theorem SlE.kp (h : SlE E w A l xs) (hk : Kp w w') : SlE E w' A l xs := by
  refine ⟨h.1, h.2.imp id ?_⟩
  rintro ⟨a, vs, rfl, hr, hc⟩
  exact ⟨a, vs, rfl, hr.kp hk, fun j v hj => by
    have := hc j v hj
    rw [Below.cell hk (World.block_lt_of_cell? w _ this)]; exact this⟩
theorem SlE.dr (h : SlE E w A l xs) : SlE E w.drew A l xs := h.kp (Kp.rfl' w).dr
theorem SlE.at_ (h : SlE E w A l xs) {i : Int} (h0 : 0 ≤ i) (h1 : i < l) : ∃ x a us, xs[i.toNat]? = some x ∧ (∀ {β : Type} (f : Addr → Option β), ixA A l i E.sz f = f a) ∧ us.length = E.sz ∧ E.rd w us x ∧ ∀ j u, us[j]? = some u → w.cell? (a.add j) = some u := by
  have hl := h.1
  have hi : i.toNat < xs.length := by omega
  rcases h.2 with hn | ⟨a, vs, rfl, hr, hc⟩
  · subst hn; simp at hi
  · obtain ⟨x, us, h2, h3, h4, h5⟩ := hr.at_ hi
    exact ⟨x, a.add (i.toNat * E.sz), us, h2, fun f => by simp [ixA, h0, h1], h3, h4, fun j u hu => by rw [Addr.add_add]; exact hc _ _ (h5 j u hu)⟩
theorem SlE.cut (h : SlE E w A l xs) {lo hi : Int} (h0 : 0 ≤ lo) (h1 : lo ≤ hi) (h2 : hi ≤ l) (h3 : l ≤ c) :
    ∃ A', (∀ {β : Type} (f : Option Addr → Nat → Nat → Option β), cutS A c lo hi E.sz f = f A' (hi.toNat - lo.toNat) (c - lo.toNat)) ∧ SlE E w A' (hi.toNat - lo.toNat) ((xs.take hi.toNat).drop lo.toNat) ∧ (A = none → A' = none) ∧
      hi.toNat - lo.toNat ≤ c - lo.toNat := by
  refine ⟨_, fun f => by rw [cutS, if_pos ⟨h0, h1, by omega⟩], ⟨by simp [h.1]; omega, ?_⟩, fun hA => by subst hA; simp, by omega⟩
  rcases h.2 with hn | ⟨a, vs, ha, hr, hc⟩
  · left; rw [hn]; simp
  · subst ha
    by_cases hl : hi.toNat - lo.toNat = 0
    · left; apply List.length_eq_zero_iff.1; simp [h.1]; omega
    · right
      rw [if_neg (by omega)]
      refine ⟨_, (vs.take (hi.toNat * E.sz)).drop (lo.toNat * E.sz), rfl, (hr.take _).drop _, fun j v hj => ?_⟩
      rw [Addr.add_add]
      refine hc _ _ ?_
      rw [List.getElem?_drop, List.getElem?_take] at hj
      split at hj
      · exact hj
      · cases hj

/-! ### Of the call's own -/
def slTEB (P : Program) (t e : TypeId) (z : Nat) : Bool :=
  (match P.underlying t with | some (.slice e') => Nat.beq e' e | _ => false) &&
  (match P.info? e with
   | some i => Nat.beq i.size z && Nat.ble i.bytes (8 * z + 64) && (match i.zero with | some v => Nat.beq v.cells.size z | _ => false)
   | none => false) && Nat.blt 0 z && Nat.ble z 64
structure SlTE (P : Program) (t e : TypeId) (z : Nat) (i : TypeInfo) (v : Value) : Prop where
  under : P.underlying t = some (.slice e)
  info : P.info? e = some i
  size : i.size = z
  bytes : i.bytes ≤ 1024
  zero : i.zero = some v
  cells : v.cells.size = z
  pos : 0 < z
theorem slTE {P : Program} {t e : TypeId} {z : Nat} (h : slTEB P t e z = true) : ∃ i v, SlTE P t e z i v := by
  simp only [slTEB, Bool.and_eq_true] at h
  obtain ⟨⟨⟨h1, h2⟩, h3⟩, h4⟩ := h
  split at h1
  · rename_i hu
    have := Nat.eq_of_beq_eq_true h1; subst this
    split at h2
    · rename_i i hi
      simp only [Bool.and_eq_true] at h2
      obtain ⟨⟨h5, h6⟩, h7⟩ := h2
      split at h7
      · rename_i v hz
        exact ⟨i, v, hu, hi, Nat.eq_of_beq_eq_true h5, by have := Nat.le_of_ble_eq_true h6; have := Nat.le_of_ble_eq_true h4; omega, hz, Nat.eq_of_beq_eq_true h7, Nat.le_of_ble_eq_true h3⟩
      · cases h7
    · cases h2
  · cases h1
variable {e : TypeId} {base : Nat} {v : Value}
/-- A row of the call's own: its elements do not lie in it. -/
def OwnE (E : El α) (e : TypeId) (w : World) (base : Nat) (v : Value) (xs : List α) : Prop :=
  ∃ vs, w.ownsRow base e E.sz v xs.length vs ∧ Stb (On v) (fun w => Rows E w vs xs) w
theorem OwnE.lt (h : OwnE E e w base v xs) : ∀ b, v.ownBlock = some b → base ≤ b ∧ b < w.heap.size := by
  obtain ⟨vs, h, _⟩ := h; exact World.ownsRow.lt h
theorem OwnE.slice (h : OwnE E e w base v xs) : ∃ A c, v = .slice A xs.length c ∧ (A = none → xs.length = 0 ∧ c = 0) ∧ xs.length ≤ c := by
  obtain ⟨vs, h, _⟩ := h
  rcases h.2 with ⟨h', hn⟩ | ⟨g, cap, cur, h', _, _, h4, _⟩
  · exact ⟨none, 0, by rw [h', hn], fun _ => ⟨hn, rfl⟩, by omega⟩
  · exact ⟨_, _, h', (fun h => by cases h), h4⟩
theorem OwnE.sl (h : OwnE E e w base (.slice A l c) xs) : l = xs.length ∧ SlE E w A l xs := by
  obtain ⟨vs, h, hs⟩ := h
  have hl : l = xs.length := by
    rcases h.2 with ⟨h', hn⟩ | ⟨g, cap, cur, h', _⟩
    · injection h' with _ h2 _; omega
    · injection h' with _ h2 _
  subst hl
  refine ⟨rfl, rfl, ?_⟩
  rcases h.2 with ⟨h', hn⟩ | ⟨g, cap, cur, h', _⟩
  · exact .inl (List.length_eq_zero_iff.1 hn)
  · injection h' with h1 h2 h3
    subst h1
    exact .inr ⟨_, vs, rfl, hs.out, fun j u hj => h.cells (g := g) rfl j u hj⟩
theorem OwnE.kp (h : OwnE E e w base v xs) (hk : Kp w w') : OwnE E e w' base v xs := by
  obtain ⟨vs, h, hs⟩ := h
  exact ⟨vs, World.ownsRow.kept h hk.grown (by cases v.ownBlock <;> simp), hs.kp hk⟩
theorem OwnE.dr (h : OwnE E e w base v xs) : OwnE E e w.drew base v xs := h.kp (Kp.rfl' w).dr
theorem OwnE.mono {base' : Nat} (h : OwnE E e w base v xs) (hb : base' ≤ base) : OwnE E e w base' v xs := by
  obtain ⟨vs, h, hs⟩ := h
  refine ⟨vs, ⟨h.1, h.2.imp id ?_⟩, hs⟩
  rintro ⟨g, cap, cur, h1, h2, h3⟩
  exact ⟨g, cap, cur, h1, by omega, h3⟩
theorem OwnE.nil (w : World) (base : Nat) : OwnE E e w base (.slice none 0 0) [] := ⟨[], World.ownsRow_nil w base e E.sz, fun _ _ => rfl⟩
/-- A literal row. -/
theorem OwnE.lit {w : World} {cs : List Value} (hr : Rows E w cs xs) (hm : xs.length ≤ maxLen) :
    OwnE E e (w.alloc (.cells cs.toArray e)) w.heap.size (.slice (some ⟨w.heap.size, 0, none⟩) xs.length xs.length) xs := by
  refine ⟨cs, ?_, fun w' hw' => hr.kp (((Kp.rfl' w).al _).tx hw' fun k hk => ?_)⟩
  · have := World.ownsRow_lit (base := w.heap.size) (e := e) (size := E.sz) w cs.toArray xs.length (Nat.le_refl _) hm (by simpa using hr.len)
    simpa using this
  · have hk : some w.heap.size = some k := hk
    injection hk with hk; omega
theorem append_runE {P : Program} {t : TypeId} {i : TypeInfo} {z : Value} (hT : SlTE P t e E.sz i z) (ty : TypeId) (ho : OwnE E e w base v xs) {m : Nat} {ys : List α} {news : List Value}
    (hl : ys.length = m) (hA : A = none → m = 0 ∧ c = 0) (hc : ∀ a, A = some a → ∀ j u, news[j]? = some u → w.cell? (a.add j) = some u) (hone : ∀ u ∈ news, u.oneCell' = true) (hr : Stb (On v) (fun w => Rows E w news ys) w)
    (hn : xs.length + m ≤ 2 ^ 36) (hb : base ≤ w.heap.size) :
    ∃ v' w', (∀ {β : Type} (f : Value → World → Option β), rn P (Builtin.append_ #[t, t] ty #[v, .slice A m c]) w f = f v' w') ∧ OwnE E e w' base v' (xs ++ ys) ∧ w.grownBy w' v.ownBlock ∧ (v'.ownBlock = v.ownBlock ∨ v'.ownBlock = some w.heap.size) := by
  obtain ⟨vs, ho, hs⟩ := ho
  cases A with
  | none =>
    obtain ⟨rfl, rfl⟩ := hA rfl
    have hys : ys = [] := List.length_eq_zero_iff.1 hl
    subst hys
    have hr' := run_append_owned_none (P := P) w base t ty e i E.sz hT.under hT.info v _ _ ho
    refine ⟨v, w, fun f => by simp only [rn, hr'], by rw [List.append_nil]; exact ⟨vs, ho, hs⟩, ⟨rfl, rfl, rfl, Nat.le_refl _, fun _ _ _ => rfl⟩, .inl rfl⟩
  | some a =>
    have hbytes : (xs.length + m) * i.bytes ≤ 140737488355328 := Nat.le_trans (Nat.mul_le_mul hn hT.bytes) (by decide)
    obtain ⟨v', w', h1, h2, h3, _, h5⟩ := run_append_own_at (P := P) w base t ty e i z E.sz i.bytes hT.under hT.info hT.zero hT.size rfl hT.cells hT.pos v _ _ ho a m c news (by rw [hr.out.len, hl]) (hc a rfl)
      hone (by simp only [maxLen]; omega) hbytes hb
    refine ⟨v', w', fun f => by simp only [rn, h1], ⟨vs ++ news, by rw [List.length_append, hl]; exact h2, fun w2 hw2 => ?_⟩, h3, h5⟩
    have hg : Gx (On v) w w' := Gx.of_grown h3
    have hg2 : Gx (On v) w w2 := hg.tr' hw2 fun k hk e => by
      rcases h5 with h5 | h5
      · have e : v'.ownBlock = some k := e
        rw [h5] at e; exact e
      · have e : v'.ownBlock = some k := e
        rw [h5] at e; injection e with e; omega
    exact (hs _ hg2).app (hr _ hg2)
end
end Go.Proofs.Ytdcdgmiojlldaaa.Big
