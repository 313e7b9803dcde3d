/- History: pieces of Within: a row is cut short, turned round. -/
import Derived.Test.YtdcdgmiojlldaaaHG
namespace Go.Proofs.Ytdcdgmiojlldaaa.Hi
open Go Big Go.RowKit Go.IntWalk Go.Maps Go.WideShapes
set_option linter.unusedVariables false
set_option linter.unusedSimpArgs false
theorem z33 (w : World) : (zeroValue 33).run Try.prog w = .ok (.agg #[.slice none 0 0, .slice none 0 0]) w := by kernel_rfl
theorem k30 : Try.prog.underlying 30 = some (.slice 33) := by kernel_rfl
section
variable {α : Type} {Q : α → Prop} {n m base mb b g N i : Nat} {w w' w0 w1 ws : World} {A B C : Option Addr} {l c m1 d1 m2 d2 d k : Nat} {bs cs : List Int} {S T : Nat → Prop} {xs ys : List PV} {vs : List Value}
theorem own_cells : ∀ (us : List Value) (o : Nat) (w : World) (vs : List Value), w.ownsRow base 33 2 (.slice (some ⟨g, 0, none⟩) l c) l vs → ∃ vs', (w.setCells g o us).ownsRow base 33 2 (.slice (some ⟨g, 0, none⟩) l c) l vs' ∧ vs'.take o = vs.take o ∧ Gx (fun j => j = g) w (w.setCells g o us)
  | [], o, w, vs, h => ⟨vs, h, rfl, Gx.rfl' _ _⟩
  | u :: us, o, w, vs, h => by
    obtain ⟨h1, g1⟩ := h.stored o u
    obtain ⟨vs', h2, e2, g2⟩ := own_cells us (o + 1) (w.setCell ⟨g, o, none⟩ u) _ h1
    refine ⟨vs', h2, ?_, ((Gx.of_grown g1).wide fun k _ e => (Option.some.inj e).symm).tr g2⟩
    have := congrArg (List.take o) e2
    rw [List.take_take, List.take_take, Nat.min_eq_left (Nat.le_succ o)] at this
    rw [this]
    refine List.ext_getElem? fun j => ?_
    rw [List.getElem?_take, List.getElem?_take]
    split
    · rw [List.getElem?_set_ne (by omega)]
    · rfl
theorem flat_take : ∀ (i : Nat) (xs : List PV), flat (xs.take i) = (flat xs).take (2 * i)
  | 0, xs => by simp [flat]
  | i + 1, [] => by simp [flat]
  | i + 1, x :: xs => by
    show x.k :: x.v :: flat (xs.take i) = (x.k :: x.v :: flat xs).take (2 * (i + 1))
    rw [flat_take i xs]; rfl
theorem flat_len (xs : List PV) : (flat xs).length = xs.length * 2 := by
  induction xs with
  | nil => rfl
  | cons x xs ih =>
    show (x.k :: x.v :: flat xs).length = _
    simp only [List.length_cons, ih]; omega
/-- A shorter row. -/
theorem Row2.cut (h : w.ownsRow base 33 2 (.slice (some ⟨g, 0, none⟩) l c) l vs) (hi : i ≤ l) (he : vs.take (2 * i) = flat ys) (hy : ys.length = i) : Row2 w base (some ⟨g, 0, none⟩) i c ys := by
  refine ⟨hy, ?_⟩
  rcases h.2 with ⟨h', hn'⟩ | ⟨g', cap, cur, h', hb, hg, hnc, hcm, hcs, ht⟩
  · injection h' with h1; cases h1
  · injection h' with h1 h2 h3
    injection h1 with h1
    injection h1 with h1
    subst h1 h3
    refine ⟨by rw [flat_len, hy], .inr ⟨g, c, cur, rfl, hb, hg, by omega, hcm, hcs, ?_⟩⟩
    rw [← he, ← ht, List.take_take]
    congr 1; omega
/-- clear(s[i:]); s[:i]. -/
theorem Rt.clearP (h : Row2 w base A l c xs) (hi : i ≤ l) (hlm : l ≤ 2 ^ 20) {f : World → Option Addr → Nat → Nat → Option α} (hf : ∀ w', Row2 w' base A i c (xs.take i) → Gx (On (.slice A l c)) w w' → Rt (f w' A i c) Q) :
    Rt (cutS A c (i : Int) (l : Int) 2 fun A72 l73 c74 => rn Try.prog (Builtin.clear_ #[30] 0 #[.slice A72 l73 c74]) w fun v75 w76 => cutS A c 0 (i : Int) 2 fun A77 l78 c79 => f w76 A77 l78 c79) Q := by
  have hlen := h.len
  have hev := h.to.ev
  have hcap := hev.cap
  have e2 : ∀ {β : Type} (G : Option Addr → Nat → Nat → Option β), cutS A c 0 (i : Int) 2 G = G A i c := fun G => by
    rw [cutS, if_pos ⟨Int.le_refl _, by omega, by omega⟩]
    have e0 : (if c = Int.toNat 0 then A else A.map (·.add (Int.toNat 0 * 2))) = A := by
      split
      · rfl
      · cases A with
        | none => rfl
        | some a => show some (a.add (0 * 2)) = _; rw [Nat.zero_mul, Addr.add_zero']
    rw [e0]
    simp
  rw [cutS, if_pos ⟨by omega, by omega, by omega⟩]
  have el : (l : Int).toNat - (i : Int).toNat = l - i := by omega
  rw [el]
  have hu : ∀ (a : Option Addr) (cc : Nat), l - i = 0 ∨ a = none → (Builtin.clear_ #[30] 0 #[.slice a (l - i) cc]).run Try.prog w = .ok (.tuple #[]) w := fun a cc h0 => by
    rcases h0 with h0 | h0
    · rw [h0]
      cases a <;> simp [Builtin.clear_, run_underlying k30] <;> rfl
    · subst h0
      simp [Builtin.clear_, run_underlying k30]
  by_cases h0 : l - i = 0
  · rw [rn_run (hu _ _ (.inl h0)), e2]
    have hil : i = l := by omega
    subst hil
    refine hf w ?_ (Gx.rfl' _ _)
    rw [List.take_of_length_le (by omega)]; exact h
  · obtain ⟨g, rfl⟩ := h.block (by omega)
    have hci : ¬ c = (i : Int).toNat := by omega
    rw [if_neg hci]
    have ea : (some (⟨g, 0, none⟩ : Addr)).map (·.add ((i : Int).toNat * 2)) = some ⟨g, i * 2, none⟩ := by
      show some (Addr.add ⟨g, 0, none⟩ _) = _
      rw [Addr.add_lit, Nat.zero_add, Int.toNat_natCast]
    rw [ea]
    have hone : ∀ v ∈ (Builtin.zeroCells #[.slice none 0 0, .slice none 0 0] (l - i)).toList, v.oneCell' = true := fun v hv => by
      unfold Builtin.zeroCells at hv
      rw [Array.toList_map] at hv
      obtain ⟨j, _, rfl⟩ := List.mem_map.1 hv
      have : j % 2 = 0 ∨ j % 2 = 1 := Nat.mod_two_eq_zero_or_one j
      show ((#[.slice none 0 0, .slice none 0 0] : Array Value)[j % 2]!).oneCell' = true
      rcases this with e | e <;> rw [e] <;> rfl
    have hsz : (Builtin.zeroCells #[.slice none 0 0, .slice none 0 0] (l - i)).toList.length = (l - i) * 2 := by
      rw [Array.length_toList, size_zeroCells]; rfl
    have hst := run_storeCells_cells (P := Try.prog) g (i * 2) (Builtin.zeroCells #[.slice none 0 0, .slice none 0 0] (l - i)).toList 0 w
      (fun j hj => by rw [h.own.cellAt _ (by omega), List.getElem?_eq_getElem (by rw [flat_len]; omega)]; rfl) (fun j hj => h.own.frozenAt _) hone
    rw [Nat.add_zero] at hst
    have hrun : (Builtin.clear_ #[30] 0 #[.slice (some ⟨g, i * 2, none⟩) (l - i) (c - (i : Int).toNat)]).run Try.prog w = .ok (.tuple #[]) (w.setCells g (i * 2) (Builtin.zeroCells #[.slice none 0 0, .slice none 0 0] (l - i)).toList) := by
      obtain ⟨q, hq⟩ : ∃ q, l - i = q + 1 := ⟨l - i - 1, by omega⟩
      rw [hq] at hst ⊢
      simp [Builtin.clear_, run_underlying k30, z33, Value.cells, hst]
    rw [rn_run hrun, e2]
    obtain ⟨vs', o1, et, g1⟩ := own_cells (base := base) (l := l) (c := c) (Builtin.zeroCells #[.slice none 0 0, .slice none 0 0] (l - i)).toList (i * 2) w _ h.own
    refine hf _ (Row2.cut o1 hi ?_ (by rw [List.length_take]; omega)) (g1.wide fun k _ e => by rw [e]; rfl)
    rw [Nat.mul_comm, et, flat_take, Nat.mul_comm]
/-! ### Turned round -/
theorem Rev2_l0 (hl : l ≤ 2 ^ 20) (hxl : xs.length = l) : ∀ (q m : Nat) (i : Nat) (j : Int) (w : World) (ys : List PV), (i : Int) + j = l - 1 → j - i < q → q < m → Row2 w base A l c ys → (∀ t, t < l → ys[t]? = if t < i ∨ j < t then xs[l - 1 - t]? else xs[t]?) →
    Rt (api_Pair_21.l0 n m A l c (i : Int) j w) fun y => ∃ w', y = ⟨.exit 0, [], w'⟩ ∧ Row2 w' base A l c xs.reverse ∧ Gx (On (.slice A l c)) w w' := by
  intro q
  induction q with
  | zero =>
    intro m i j w ys hij hq hm h hys
    obtain ⟨m, rfl⟩ : ∃ m', m = m' + 1 := ⟨m - 1, by omega⟩
    rw [api_Pair_21.l0_succ]
    refine Rt.cDF (by omega) (Rt.some' ⟨w, rfl, ?_, Gx.rfl' _ _⟩)
    have hyl := h.len
    have : ys = xs.reverse := List.ext_getElem? fun t => by
      by_cases ht : t < l
      · rw [List.getElem?_reverse (by omega), hys t ht, hxl]
        split
        · rfl
        · congr 1; omega
      · rw [List.getElem?_eq_none (by omega), List.getElem?_eq_none (by rw [List.length_reverse]; omega)]
    rw [← this]; exact h
  | succ q ih =>
    intro m i j w ys hij hq hm h hys
    obtain ⟨m, rfl⟩ : ∃ m', m = m' + 1 := ⟨m - 1, by omega⟩
    rw [api_Pair_21.l0_succ]
    have hyl := h.len
    refine Rt.cD (fun hlt => ?_) fun hge => Rt.some' ⟨w, rfl, ?_, Gx.rfl' _ _⟩
    · have hd := h.kp (Kp.rfl' w).dr
      refine Rt.ldP hd (by omega) fun x hx => Rt.ldP hd (by omega) fun y hy => ?_
      refine Rt.stP hd (by omega) x fun w1 r1 g1 => Rt.stP r1 (by omega) y fun w2 r2 g2 => ?_
      rw [i64_in ((i : Int) + 1) (by omega), i64_in (j - 1) (by omega), show ((i : Int) + 1) = ((i + 1 : Nat) : Int) by omega]
      rw [Int.toNat_natCast] at hy r2
      have hjn : (j.toNat : Int) = j := Int.toNat_of_nonneg (by omega)
      have hx' := hys j.toNat (by omega)
      have hy' := hys i (by omega)
      rw [hx, if_neg (by omega)] at hx'
      rw [hy, if_neg (by omega)] at hy'
      refine Rt.mono (ih m (i + 1) (j - 1) w2 _ (by omega) (by omega) (by omega) r2 fun t ht => ?_) ?_
      · by_cases e1 : j.toNat = t
        · subst e1
          rw [List.getElem?_set_self (by rw [List.length_set]; omega), if_pos (by omega), show l - 1 - j.toNat = i by omega, ← hy']
        · rw [List.getElem?_set_ne e1]
          by_cases e2 : i = t
          · subst e2
            rw [List.getElem?_set_self (by omega), if_pos (by omega), show l - 1 - i = j.toNat by omega, ← hx']
          · rw [List.getElem?_set_ne e2, hys t ht]
            by_cases e3 : t < i ∨ j < t
            · rw [if_pos e3, if_pos (by omega)]
            · rw [if_neg e3, if_neg (by omega)]
      · rintro _ ⟨w3, rfl, h3, g3⟩
        exact ⟨w3, rfl, h3, (((Kp.rfl' w).dr.gx.tr g1).tr g2).tr g3⟩
    · have : ys = xs.reverse := List.ext_getElem? fun t => by
        by_cases ht : t < l
        · rw [List.getElem?_reverse (by omega), hys t ht, hxl]
          split
          · rfl
          · congr 1; omega
        · rw [List.getElem?_eq_none (by omega), List.getElem?_eq_none (by rw [List.length_reverse]; omega)]
      rw [← this]; exact h
theorem Rev2_spec (hn : 2 ^ 60 < n) (h : Row2 w base A l c xs) (hl : l ≤ 2 ^ 20) : Rt (api_Pair_21 n [.slice A l c] w) fun y => ∃ w', y = ([], w') ∧ Row2 w' base A l c xs.reverse ∧ Gx (On (.slice A l c)) w w' := by
  rw [api_Pair_21_eq, i64_in ((l : Int) - 1) (by omega)]
  refine Rt.fin (Rt.jb (Rt.mono (Rev2_l0 (n := n) (xs := xs) hl h.len (l + 1) n 0 ((l : Int) - 1) w xs (by omega) (by omega) (by omega) h fun t ht => by rw [if_neg (by omega)]) ?_))
  rintro _ ⟨w1, rfl, h1, g1⟩
  exact .inl ⟨.inr rfl, Rt.tN (Rt.some' ⟨rfl, w1, rfl, h1, g1⟩)⟩
end
end Go.Proofs.Ytdcdgmiojlldaaa.Hi
