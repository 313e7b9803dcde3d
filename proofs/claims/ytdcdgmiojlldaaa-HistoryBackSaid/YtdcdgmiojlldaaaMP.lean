/- Rows of one cell each, of the call's own: values that the world plays no part in. -/
import Derived.Test.YtdcdgmiojlldaaaMM
namespace Go.Proofs.Ytdcdgmiojlldaaa.Big
open Go Go.RowKit
set_option linter.unusedVariables false
set_option linter.unusedSimpArgs false
set_option linter.unusedSectionVars false
def OwnV (e : TypeId) (w : World) (base : Nat) (v : Value) (vs : List Value) : Prop := w.ownsRow base e 1 v vs.length vs ∧ ∀ u ∈ vs, u.oneCell' = true
section
variable {α : Type} {Q : α → Prop} {P : Program} {t e : TypeId} {w w' w0 : World} {base : Nat} {v : Value} {vs : List Value} {S : Nat → Prop} {i : TypeInfo} {z : Value}
theorem OwnV.lt (h : OwnV e w base v vs) : ∀ b, v.ownBlock = some b → base ≤ b ∧ b < w.heap.size := World.ownsRow.lt h.1
theorem OwnV.slice (h : OwnV e w base v vs) : ∃ A c, v = .slice A vs.length c := by
  rcases h.1.2 with ⟨h', hn⟩ | ⟨g, cap, cur, h', _⟩
  · exact ⟨none, 0, by rw [h', hn]⟩
  · exact ⟨_, _, h'⟩
theorem OwnV.gx (h : OwnV e w base v vs) (hg : Gx S w w') (hn : ∀ j, v.ownBlock = some j → ¬ S j) : OwnV e w' base v vs :=
  ⟨⟨h.1.1, h.1.2.imp id fun ⟨g, cap, cur, h1, h2, h3, h4⟩ => ⟨g, cap, cur, h1, h2, by rw [hg.block g (Array.getElem?_eq_some_iff.1 h3).1 (hn g (by rw [h1]; rfl))]; exact h3, h4⟩⟩, h.2⟩
theorem OwnV.kp (h : OwnV e w base v vs) (hk : Kp w w') : OwnV e w' base v vs := h.gx (S := fun _ => False) hk.gx fun _ _ h => h
theorem OwnV.nil (w : World) (base : Nat) : OwnV e w base (.slice none 0 0) [] := ⟨World.ownsRow_nil w base e 1, fun u hu => by cases hu⟩
theorem OwnV.arr {A : Option Addr} {l c : Nat} (h : OwnV e w base (.slice A l c) vs) : l = vs.length ∧ l ≤ c ∧ (A = none → l = 0 ∧ c = 0) ∧ (0 < l → ∃ g, A = some ⟨g, 0, none⟩ ∧ base ≤ g) := by
  rcases h.1.2 with ⟨h', hn'⟩ | ⟨g, cap, cur, h', hb, hg, hnc, hcm, _⟩
  · injection h' with h1 h2 h3; subst h1 h2 h3; exact ⟨hn'.symm, Nat.le_refl _, fun _ => ⟨rfl, rfl⟩, fun h => by omega⟩
  · injection h' with h1 h2 h3; subst h1 h2 h3; exact ⟨rfl, hnc, (fun h => by cases h), fun _ => ⟨g, rfl, hb⟩⟩
theorem OwnV.cell {g c : Nat} {l : Nat} (h : OwnV e w base (.slice (some ⟨g, 0, none⟩) l c) vs) {o : Nat} {u : Value} (ho : vs[o]? = some u) : w.cell? ⟨g, o, none⟩ = some u := by
  rcases h.1.2 with ⟨h', hn'⟩ | ⟨g', cap, cur, h', hb, hg, hnc, hcm, hcs, ht⟩
  · injection h' with h1; cases h1
  · injection h' with h1 h2 h3
    injection h1 with h1
    injection h1 with h1
    subst h1 h3
    rw [← ht, List.getElem?_take] at ho
    split at ho
    · rw [Array.getElem?_toList] at ho
      simp [World.cell?, hg, ho]
    · cases ho
theorem Rt.ixV {A : Option Addr} {l c : Nat} (h : OwnV e w base (.slice A l c) vs) {j : Int} (h0 : 0 ≤ j) (h1 : j < l) {f : Addr → Option α}
    (hf : ∀ a u, vs[j.toNat]? = some u → w.cell? a = some u → Rt (f a) Q) : Rt (ixA A l j 1 f) Q := by
  obtain ⟨hl, hc, _, hA⟩ := h.arr
  obtain ⟨g, rfl, _⟩ := hA (by omega)
  have hu : vs[j.toNat]? = some (vs[j.toNat]'(by omega)) := List.getElem?_eq_getElem _
  have e1 : ixA (some ⟨g, 0, none⟩) l j 1 f = f ⟨g, j.toNat, none⟩ := by
    unfold ixA
    simp only
    rw [if_pos ⟨h0, h1⟩, Nat.mul_one, Addr.add_lit, Nat.zero_add]
  rw [e1]
  exact hf _ _ hu (h.cell hu)
theorem Rt.pushV (hT : SlTE P t e 1 i z) {ty : TypeId} (ho : OwnV e w base v vs) {b : Nat} {u : Value} (hl : Lc w b [u]) (hu : u.oneCell' = true) (hn : vs.length + 1 ≤ 2 ^ 36) (hb : base ≤ w.heap.size)
    {f : Value → World → Option α} (h : ∀ A c w', OwnV e w' base (.slice A (vs.length + 1) c) (vs ++ [u]) → (∀ j, On (.slice A (vs.length + 1) c) j → On v j ∨ w.heap.size ≤ j) → Gx (On v) w w' → Rt (f (.slice A (vs.length + 1) c) w') Q) :
    Rt (rn P (Builtin.append_ #[t, t] ty #[v, .slice (some ⟨b, 0, none⟩) 1 1]) w f) Q := by
  have hbytes : (vs.length + 1) * i.bytes ≤ 140737488355328 := Nat.le_trans (Nat.mul_le_mul hn hT.bytes) (by decide)
  obtain ⟨v', w', h1, h2, h3, _, h5⟩ := run_append_own_at (P := P) w base t ty e i z 1 i.bytes hT.under hT.info hT.zero hT.size rfl hT.cells hT.pos v _ _ ho.1 ⟨b, 0, none⟩ 1 1 [u] (by simp)
    (fun j u' hj => by rw [Addr.add_lit, Nat.zero_add, hl.ld]; exact hj) (fun u' hu' => by rw [List.mem_singleton] at hu'; subst hu'; exact hu) (by simp only [maxLen]; omega) hbytes hb
  have e1 : rn P (Builtin.append_ #[t, t] ty #[v, .slice (some ⟨b, 0, none⟩) 1 1]) w f = f v' w' := by simp only [rn, h1]
  rw [e1]
  have hO : OwnV e w' base v' (vs ++ [u]) := ⟨by rw [List.length_append]; exact h2, fun x hx => by
    rcases List.mem_append.1 hx with hx | hx
    · exact ho.2 x hx
    · rw [List.mem_singleton] at hx; subst hx; exact hu⟩
  obtain ⟨A, c, rfl⟩ := hO.slice
  have hl : (vs ++ [u]).length = vs.length + 1 := by rw [List.length_append]; rfl
  rw [hl] at hO h5 ⊢
  refine h A c w' hO (fun j hj => ?_) ((Gx.of_grown h3).wide fun k _ e => e)
  have hj : Value.ownBlock (.slice A (vs.length + 1) c) = some j := hj
  rcases h5 with h5 | h5
  · exact .inl (by rw [h5] at hj; exact hj)
  · rw [h5] at hj; injection hj with hj; exact .inr (by omega)
theorem OwnV.less {g l c : Nat} (h : OwnV e w base (.slice (some ⟨g, 0, none⟩) l c) vs) {n : Nat} (hn : n ≤ vs.length) : OwnV e w base (.slice (some ⟨g, 0, none⟩) n c) (vs.take n) := by
  have hl : (vs.take n).length = n := by rw [List.length_take]; omega
  refine ⟨?_, fun u hu => h.2 u (List.mem_of_mem_take hu)⟩
  rw [hl]
  rcases h.1.2 with ⟨h', hn'⟩ | ⟨g', cap, cur, h', hb, hg, hnc, hcm, hcs, ht⟩
  · injection h' with h1; cases h1
  · injection h' with h1 h2 h3
    injection h1 with h1
    injection h1 with h1
    subst h1 h3
    refine ⟨by rw [hl]; omega, .inr ⟨g, c, cur, rfl, hb, hg, by omega, hcm, hcs, ?_⟩⟩
    rw [← ht, List.take_take, Nat.mul_one, Nat.mul_one]
    congr 1; omega
/-- s = append(s[:j], s[j+1:]...) -/
theorem Rt.delV (hT : SlTE P t e 1 i z) {ty : TypeId} {A : Option Addr} {l c : Nat} (ho : OwnV e w base (.slice A l c) vs) {j : Nat} (hj : j < l)
    {f : Value → World → Option α} (h : ∀ w', OwnV e w' base (.slice A (l - 1) c) (vs.eraseIdx j) → Gx (On (.slice A l c)) w w' → (∀ k, On (.slice A (l - 1) c) k → On (.slice A l c) k) → Rt (f (.slice A (l - 1) c) w') Q) :
    Rt (Big.cutS A c 0 (j : Int) 1 fun A4 l5 c6 => Big.cutS A c ((j + 1 : Nat) : Int) (l : Int) 1 fun A7 l8 c9 => rn P (Builtin.append_ #[t, t] ty #[.slice A4 l5 c6, .slice A7 l8 c9]) w f) Q := by
  obtain ⟨hl, hlc, _, hA⟩ := ho.arr
  obtain ⟨g, rfl, hg⟩ := hA (by omega)
  have add0 : ∀ o, (⟨g, 0, none⟩ : Addr).add o = ⟨g, o, none⟩ := fun o => by rw [Addr.add_lit, Nat.zero_add]
  have hc0 : c ≠ Int.toNat 0 := by show c ≠ 0; omega
  rw [Big.cutS, if_pos ⟨by omega, by omega, by omega⟩, if_neg hc0, Option.map_some, Big.cutS, if_pos ⟨by omega, by omega, by omega⟩, Int.toNat_natCast, Int.toNat_natCast, Int.toNat_natCast]
  rw [show Int.toNat 0 = 0 from rfl, Nat.zero_mul, Nat.sub_zero, Nat.sub_zero, add0]
  have hlen : (vs.drop (j + 1)).length = l - (j + 1) := by rw [List.length_drop]; omega
  have ho0 := ho.less (n := j) (by omega)
  have htl : (vs.take j).length = j := by rw [List.length_take]; omega
  have herase : vs.take j ++ vs.drop (j + 1) = vs.eraseIdx j := (List.eraseIdx_eq_take_drop_succ vs j).symm
  -- the cut behind
  have hcut : ∃ a, (if c = j + 1 then some (⟨g, 0, none⟩ : Addr) else (some (⟨g, 0, none⟩ : Addr)).map (·.add ((j + 1) * 1))) = some a ∧ ∀ k u, (vs.drop (j + 1))[k]? = some u → w.cell? (a.add k) = some u := by
    by_cases hcj : c = j + 1
    · refine ⟨⟨g, 0, none⟩, by rw [if_pos hcj], fun k u hu => ?_⟩
      have : l - (j + 1) = 0 := by omega
      rw [this] at hlen
      rw [List.length_eq_zero_iff.1 hlen] at hu
      simp at hu
    · refine ⟨⟨g, j + 1, none⟩, by rw [if_neg hcj, Option.map_some, add0, Nat.mul_one], fun k u hu => ?_⟩
      rw [Addr.add_lit]
      rw [List.getElem?_drop] at hu
      exact ho.cell hu
  obtain ⟨a, ha, hnews⟩ := hcut
  rw [ha]
  obtain ⟨w1, r1, o1, g1⟩ := run_append_fits (P := P) (w := w) base t ty e i 1 hT.under hT.info hT.size g j c (vs.take j) (by have := ho0.1; rw [htl] at this; exact this) a (l - (j + 1)) (c - (j + 1)) (vs.drop (j + 1)) (by rw [hlen]; omega) hnews (fun u hu => ho.2 u (List.mem_of_mem_drop hu)) (by omega)
  rw [herase, show j + (l - (j + 1)) = l - 1 by omega] at o1
  rw [show j + (l - (j + 1)) = l - 1 by omega] at r1
  have hel : (vs.eraseIdx j).length = l - 1 := by rw [List.length_eraseIdx]; split <;> omega
  rw [show rn P (Builtin.append_ #[t, t] ty #[.slice (some ⟨g, 0, none⟩) j c, .slice (some a) (l - (j + 1)) (c - (j + 1))]) w f = f (.slice (some ⟨g, 0, none⟩) (l - 1) c) w1 by simp only [rn, r1]]
  refine h w1 ⟨by rw [hel]; exact o1, fun u hu => ho.2 u (List.mem_of_mem_eraseIdx hu)⟩ ((Gx.rfl' (On (.slice (some ⟨g, 0, none⟩) l c)) w).gr g1 fun k _ e => e) fun k hk => hk
end
end Go.Proofs.Ytdcdgmiojlldaaa.Big
