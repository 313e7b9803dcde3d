/- Objects that turn: footprints, appends with their footprint, the delete of the first. -/
import Derived.Test.YtdcdgmiojlldaaaM7
import Derived.Laws.IdiomCopy
namespace Go.Proofs.Ytdcdgmiojlldaaa.Big
open Go Go.RowKit
set_option linter.unusedVariables false
set_option linter.unusedSimpArgs false
/-- a call that answers vs, turns only what is of S (and what is new), and leaves R with the footprint S' -/
def RF (S : Nat → Prop) (w0 : World) (vs : List Value) (R : (Nat → Prop) → World → Prop) : List Value × World → Prop := fun r => ∃ w' S', r = (vs, w') ∧ Gx S w0 w' ∧ (∀ j, S' j → S j ∨ w0.heap.size ≤ j) ∧ R S' w'
section
variable {α : Type} {Q : α → Prop} {P : Program} {t e : TypeId} {k : IntKind} {w w' w0 : World} {base : Nat} {v : Value} {xs ys : List Int} {S S' T : Nat → Prop} {i : TypeInfo}
theorem Rt.appO (hT : SlT P t e k i) {ty : TypeId} (ho : Own k e w base v xs) {B : Option Addr} {m d : Nat} (hs : Sl k w B m ys) (hB : B = none → m = 0 ∧ d = 0) (hn : xs.length + m ≤ 2 ^ 40) (hb : base ≤ w.heap.size)
    {f : Value → World → Option α} (h : ∀ A c w', Own k e w' base (.slice A (xs.length + m) c) (xs ++ ys) → (∀ j, On (.slice A (xs.length + m) c) j → On v j ∨ w.heap.size ≤ j) → Gx (On v) w w' → Rt (f (.slice A (xs.length + m) c) w') Q) :
    Rt (rn P (Builtin.append_ #[t, t] ty #[v, .slice B m d]) w f) Q := by
  obtain ⟨v', w', h1, h2, h3, h4⟩ := append_run hT w base ty ho hs hB hn hb
  rw [h1]
  obtain ⟨A, c, rfl⟩ := h2.slice
  have hl : (xs ++ ys).length = xs.length + m := by rw [List.length_append, hs.1]
  rw [hl] at h2 h4 ⊢
  refine h A c w' h2 (fun j hj => ?_) ((Gx.of_grown h3).wide fun k _ e => e)
  have hj : Value.ownBlock (.slice A (xs.length + m) c) = some j := hj
  rcases h4 with h4 | h4
  · exact .inl (by rw [h4] at hj; exact hj)
  · rw [h4] at hj; injection hj with hj; exact .inr (by omega)
theorem Lc.sl1 {b : Nat} {x : Int} (h : Lc w b [.int k x]) : Sl k w (some ⟨b, 0, none⟩) 1 [x] :=
  ⟨rfl, .inr ⟨_, rfl, fun j hj => by
    have : j = 0 := by omega
    subst this
    rw [Addr.add_lit, Nat.zero_add, h.ld]; rfl⟩⟩
theorem Rt.push (hT : SlT P t e k i) {ty : TypeId} (ho : Own k e w base v xs) {b : Nat} {x : Int} (hl : Lc w b [.int k x]) (hn : xs.length + 1 ≤ 2 ^ 40) (hb : base ≤ w.heap.size)
    {f : Value → World → Option α} (h : ∀ A c w', Own k e w' base (.slice A (xs.length + 1) c) (xs ++ [x]) → (∀ j, On (.slice A (xs.length + 1) c) j → On v j ∨ w.heap.size ≤ j) → Gx (On v) w w' → Rt (f (.slice A (xs.length + 1) c) w') Q) :
    Rt (rn P (Builtin.append_ #[t, t] ty #[v, .slice (some ⟨b, 0, none⟩) 1 1]) w f) Q :=
  Rt.appO hT ho hl.sl1 (fun h => by cases h) hn hb h
/-- clear of one cell -/
theorem clear1_run {z : Value} (ht : P.underlying t = some (.slice e)) (hv : ∀ w, (zeroValue e).run P w = .ok z w) (hz : z.cells = #[z]) (h1 : z.oneCell' = true) {b o c : Nat} {u : Value} (hc : w.cell? ⟨b, o, none⟩ = some u) (hf : w.frozen? ⟨b, o, none⟩ = false) {ty : TypeId} {f : Value → World → Option α} :
    rn P (Builtin.clear_ #[t] ty #[.slice (some ⟨b, o, none⟩) 1 c]) w f = f (.tuple #[]) (w.setCell ⟨b, o, none⟩ z) := by
  have hzc : (Builtin.zeroCells z.cells 1).toList = [z] := by rw [hz]; simp [Builtin.zeroCells]
  have hst := run_storeCells_cells (P := P) b o [z] 0 w (by simp [hc]) (by simp [hf]) (by simp [h1])
  simp only [Nat.add_zero] at hst
  have hr : (Builtin.clear_ #[t] ty #[.slice (some ⟨b, o, none⟩) 1 c]).run P w = .ok (.tuple #[]) (w.setCell ⟨b, o, none⟩ z) := by
    simp [Builtin.clear_, run_underlying ht, hv, hzc, hst]
    rfl
  simp only [rn, hr]
/-- s = append(s[:0], s[1:]...), clear(s[len-1:]): the body of slices.Delete(s, 0, 1) -/
theorem Own.arr {A : Option Addr} {l c : Nat} (h : Own k e w base (.slice A l c) xs) (hn : 0 < l) : ∃ g, A = some ⟨g, 0, none⟩ ∧ l ≤ c ∧ c ≤ maxLen ∧ base ≤ g := by
  rcases h.2 with ⟨h', hn'⟩ | ⟨g, cap, cur, h', hb, hg, hnc, hcm, _⟩
  · injection h' with h1 h2 h3; omega
  · injection h' with h1 h2 h3; subst h1 h2 h3; exact ⟨g, rfl, hnc, hcm, hb⟩
theorem Own.less {g c : Nat} (h : Own k e w base (.slice (some ⟨g, 0, none⟩) xs.length c) xs) {n : Nat} (hn : n ≤ xs.length) : Own k e w base (.slice (some ⟨g, 0, none⟩) n c) (xs.take n) := by
  have hl : (xs.take n).length = n := by rw [List.length_take]; omega
  unfold Own
  rw [hl]
  rcases h.2 with ⟨h', hn'⟩ | ⟨g', cap, cur, h', hb, hg, hnc, hcm, hcs, ht⟩
  · injection h' with h1; cases h1
  · injection h' with h1 h2 h3
    injection h1 with h1
    injection h1 with h1
    subst h1 h3
    refine ⟨by simp; omega, .inr ⟨g, c, cur, rfl, hb, hg, by omega, hcm, hcs, ?_⟩⟩
    rw [List.map_take, ← ht, List.take_take, Nat.mul_one, Nat.mul_one]
    congr 1; omega
theorem Own.cell {g c : Nat} (h : Own k e w base (.slice (some ⟨g, 0, none⟩) xs.length c) xs) {o : Nat} (ho : o < c) : ∃ u, w.cell? ⟨g, o, none⟩ = some u := by
  rcases h.2 with ⟨h', hn'⟩ | ⟨g', cap, cur, h', hb, hg, hnc, hcm, hcs, ht⟩
  · injection h' with h1; cases h1
  · injection h' with h1 h2 h3
    injection h1 with h1
    injection h1 with h1
    subst h1 h3
    exact ⟨cur[o]'(by omega), by simp [World.cell?, hg, show o < cur.size by omega]⟩
theorem Rt.del {v0 : Value} {x : Int} (hT : SlT P t e k i) (hv : ∀ w, (zeroValue e).run P w = .ok v0 w) (hz : v0.cells = #[v0]) (h1 : v0.oneCell' = true) {ty ty' : TypeId} {A : Option Addr} {l c : Nat} (ho : Own k e w base (.slice A l c) (x :: xs)) (hx : xs.length ≤ 2 ^ 40) (hb : base ≤ w.heap.size)
    {f : Option Addr → Nat → Nat → World → Option α} (h : ∀ w', Own k e w' base (.slice A xs.length c) xs → Gx (On (.slice A l c)) w w' → (∀ j, On (.slice A xs.length c) j → On (.slice A l c) j) → Rt (f A xs.length c w') Q) :
    Rt (Big.cutS A c 0 0 1 fun A4 l5 c6 => Big.cutS A c 1 (l : Int) 1 fun A7 l8 c9 => rn P (Builtin.append_ #[t, t] ty #[.slice A4 l5 c6, .slice A7 l8 c9]) w fun v13 w14 => Big.tL v13 fun A10 l11 c12 => Big.cutS A10 c12 (l11 : Int) (l : Int) 1 fun A15 l16 c17 => rn P (Builtin.clear_ #[t] ty' #[.slice A15 l16 c17]) w14 fun _ w19 => f A10 l11 c12 w19) Q := by
  have hl := ho.sl.1
  rw [List.length_cons] at hl
  obtain ⟨g, rfl, hlc, hcm, hg⟩ := ho.arr (by omega)
  have hsl := ho.sl.2
  subst hl
  have hc0 : c ≠ 0 := by omega
  have add0 : ∀ o, (⟨g, 0, none⟩ : Addr).add o = ⟨g, o, none⟩ := fun o => by rw [Addr.add_lit, Nat.zero_add]
  obtain ⟨A2, e2, s2, n2, _⟩ := Sl.cut ho.sl.2 (lo := 1) (hi := ((xs.length + 1 : Nat) : Int)) (by omega) (by omega) (by omega) hlc
  have hA2 : ∃ a, A2 = some a := by
    have := e2 (α := Option Addr) fun A' _ _ => some A'
    rw [Big.cutS, if_pos ⟨by omega, by omega, by omega⟩] at this
    injection this with this
    rw [← this]
    split
    · exact ⟨_, rfl⟩
    · exact ⟨_, rfl⟩
  obtain ⟨a, rfl⟩ := hA2
  rw [Big.cutS, if_pos ⟨by omega, by omega, by omega⟩, e2]
  have h10 : Int.toNat 1 = 1 := rfl
  rw [show Int.toNat 0 = 0 from rfl, if_neg hc0, h10, Int.toNat_natCast, Option.map_some, add0, Nat.zero_mul, Nat.sub_zero, Nat.sub_zero, Nat.add_sub_cancel]
  rw [h10, Int.toNat_natCast, Nat.add_sub_cancel] at s2
  have hd : List.drop 1 (List.take (xs.length + 1) (x :: xs)) = xs := by simp
  rw [hd] at s2
  have hnews : ∀ j u, (xs.map (Value.int k))[j]? = some u → w.cell? (a.add j) = some u := fun j u hj => by
    rw [List.getElem?_map] at hj
    rcases s2.2 with hn | ⟨a', ha, hc⟩
    · rw [hn] at hj; simp at hj
    · injection ha with ha; subst ha
      have hjl : j < xs.length := by
        rcases Nat.lt_or_ge j xs.length with h | h
        · exact h
        · rw [List.getElem?_eq_none h] at hj; cases hj
      rw [hc j hjl]
      rw [List.getElem?_eq_getElem hjl] at hj
      injection hj with hj
      rw [← hj, List.getD_eq_getElem?_getD, List.getElem?_eq_getElem hjl]; rfl
  have ho0 := Own.less (xs := x :: xs) (by simpa using ho) (n := 0) (Nat.zero_le _)
  obtain ⟨w1, r1, o1, g1⟩ := run_append_fits (P := P) (w := w) base t ty e i 1 hT.under hT.info hT.size g 0 c [] (by unfold Own at ho0; simpa using ho0) a xs.length (c - 1) (xs.map (.int k)) (by simp) hnews (by intro u hu; obtain ⟨x, _, rfl⟩ := List.mem_map.1 hu; rfl) (by omega)
  rw [Nat.zero_add, List.nil_append] at o1
  rw [Nat.zero_add] at r1
  have o1 : Own k e w1 base (.slice (some ⟨g, 0, none⟩) xs.length c) xs := o1
  rw [show rn P (Builtin.append_ #[t, t] ty #[.slice (some ⟨g, 0, none⟩) 0 c, .slice (some a) xs.length (c - 1)]) w = fun f => f (.slice (some ⟨g, 0, none⟩) xs.length c) w1 from funext fun f => by simp only [rn, r1]]
  have hx0 : ¬ c = ((xs.length : Int)).toNat := by omega
  show Rt (Big.cutS (some ⟨g, 0, none⟩) c (xs.length : Int) ((xs.length + 1 : Nat) : Int) 1 fun A15 l16 c17 => rn P (Builtin.clear_ #[t] ty' #[.slice A15 l16 c17]) w1 fun _ w19 => f (some ⟨g, 0, none⟩) xs.length c w19) Q
  rw [Big.cutS, if_pos ⟨by omega, by omega, by omega⟩, if_neg hx0, Option.map_some, add0, Int.toNat_natCast, Int.toNat_natCast, Nat.add_sub_cancel_left, Nat.mul_one]
  obtain ⟨u, hu⟩ := Own.cell o1 (o := xs.length) (by omega)
  rw [clear1_run hT.under hv hz h1 hu (World.ownsRow.frozenAt (g := g) (n := xs.length) (cap := c) o1 _)]
  have hst := World.ownsRow.stored (g := g) (n := xs.length) (cap := c) o1 xs.length v0
  rw [List.set_eq_of_length_le (by simp)] at hst
  refine h _ hst.1 ?_ fun j hj => hj
  exact ((Gx.rfl' (On (.slice (some ⟨g, 0, none⟩) (xs.length + 1) c)) w).gr g1 fun k _ e => e).gr hst.2 fun k _ e => e
end
end Go.Proofs.Ytdcdgmiojlldaaa.Big
