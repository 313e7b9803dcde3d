/- Drop: Keep of the document's own text. -/
import Derived.Test.YtoilmnplocfipaaD7
import Derived.Test.YtoilmnplocfipaaD3
namespace Go.Proofs.Ytoilmnplocfipaa.Dr
open Go Big Go.RowKit Go.IntWalk Ik
set_option linter.unusedVariables false
set_option linter.unusedSimpArgs false
section
variable {α : Type} {Q : α → Prop} {n base : Nat} {w w0 w' : World} {A B C D E : Option Addr} {l c m d a1 a2 b1 b2 e c5 : Nat} {s k s' k' : Int} {x y : En} {xs ys zs : List En} {ss : List Int} {v : Value}
theorem Rseen_l0 {a b : Int} (hs : Bv .u64 w A l c ss) (hl : l < 2 ^ 62) : ∀ (f i j : Nat), i + f = l → f < j → (¬ seenP (ss.take i) a b) →
    Rt (butteryref9_seen.l0 n j A l c a b true (i : Int) w) fun r => r.w = w ∧ (r.ex = .exit 0 ∧ r.vals = [] ∧ ¬ seenP ss a b ∨ r.ex = .ret ∧ r.vals = [.bool true] ∧ seenP ss a b) := by
  have hsl := hs.len
  intro f
  induction f with
  | zero =>
    intro i j hi hj he
    obtain ⟨j, rfl⟩ : ∃ j', j = j' + 1 := ⟨j - 1, by omega⟩
    rw [butteryref9_seen.l0_succ]
    exact Rt.cDF (by omega) (Rt.some' ⟨rfl, .inl ⟨rfl, rfl, by rwa [List.take_of_length_le (by omega)] at he⟩⟩)
  | succ f ih =>
    intro i j hi hj he
    obtain ⟨j, rfl⟩ : ∃ j', j = j' + 1 := ⟨j - 1, by omega⟩
    rw [butteryref9_seen.l0_succ]
    have ex : ss[i]? = some (ss.getD i 0) := by rw [List.getD_eq_getElem?_getD, List.getElem?_eq_getElem (by omega)]; rfl
    generalize hz : ss.getD i 0 = z at ex
    have cont : ¬ (z ≥ a ∧ z < b) → Rt (some (⟨.norm, [.slice A l c, .int .u64 a, .int .u64 b, .bool true, .int .i64 (i : Int)], w⟩ : Res)) fun r => (r.ex = .norm ∨ r.ex = .exit 1) ∧ Rt (Big.tC r.vals fun v9 cs10 => Big.tL v9 fun A11 l12 c13 => Big.tC cs10 fun v14 cs15 => Big.tI .u64 v14 fun n16 => Big.tC cs15 fun v17 cs18 => Big.tI .u64 v17 fun n19 => Big.tC cs18 fun v20 cs21 => Big.tB v20 fun b22 => Big.tC cs21 fun v23 cs24 => Big.tI .i64 v23 fun n25 => Big.tN cs24 (butteryref9_seen.l0 n j A11 l12 c13 n16 n19 b22 (IntKind.i64.wrap (n25 + 1)) r.w)) (fun r => r.w = w ∧ (r.ex = .exit 0 ∧ r.vals = [] ∧ ¬ seenP ss a b ∨ r.ex = .ret ∧ r.vals = [.bool true] ∧ seenP ss a b)) ∨ r.ex = .ret ∧ (r.w = w ∧ (r.ex = .exit 0 ∧ r.vals = [] ∧ ¬ seenP ss a b ∨ r.ex = .ret ∧ r.vals = [.bool true] ∧ seenP ss a b)) := by
      intro hn
      refine Rt.some' (.inl ⟨.inl rfl, ?_⟩)
      (repeat (first | (with_reducible (first | refine Rt.fin ?_ | refine Rt.tL ?_ | refine Rt.tI ?_ | refine Rt.tB ?_ | refine Rt.tS ?_ | refine Rt.tP ?_ | refine Rt.tD ?_ | refine Rt.tM ?_ | refine Rt.tC ?_ | refine Rt.tN ?_ | refine Rt.tA ?_ | refine Rt.tG ?_ | refine Rt.tF ?_ | refine Rt.os ?_ | refine Rt.clS ?_ | refine Rt.jmN ?_ | refine Rt.jbN ?_ | refine Rt.jbE ?_)) | ((with_reducible (first | apply Rt.ld0 | apply Rt.ld1 | apply Rt.ld2 | apply Rt.ld3 | apply Rt.ld4 | apply Rt.ld5)); first | assumption | exact Lc.kp (by assumption) (by assumption)) | ((with_reducible apply Rt.ol); first | assumption | exact cell_kp (by assumption) (by assumption)) | ((with_reducible apply Rt.ckR); focus ((repeat (first | (with_reducible (first | refine Rt.fin ?_ | refine Rt.tL ?_ | refine Rt.tI ?_ | refine Rt.tB ?_ | refine Rt.tS ?_ | refine Rt.tP ?_ | refine Rt.tD ?_ | refine Rt.tM ?_ | refine Rt.tC ?_ | refine Rt.tN ?_ | refine Rt.tA ?_ | refine Rt.tG ?_ | refine Rt.tF ?_ | refine Rt.os ?_ | refine Rt.clS ?_ | refine Rt.jmN ?_ | refine Rt.jbN ?_ | refine Rt.jbE ?_)) | ((with_reducible (first | apply Rt.ld0 | apply Rt.ld1 | apply Rt.ld2 | apply Rt.ld3 | apply Rt.ld4 | apply Rt.ld5)); first | assumption | exact Lc.kp (by assumption) (by assumption)) | ((with_reducible apply Rt.ol); first | assumption | exact cell_kp (by assumption) (by assumption)))); exact Rt.some' rfl))))
      rw [i64_in _ (by omega), show ((i : Int) + 1) = ((i + 1 : Nat) : Int) by omega]
      refine ih (i + 1) j (by omega) (by omega) ?_
      rintro ⟨t, ht, h1, h2⟩
      rw [take_succ_at ex, List.mem_append] at ht
      rcases ht with ht | ht
      · exact he ⟨t, ht, h1, h2⟩
      · rw [List.mem_singleton] at ht; subst ht; exact hn ⟨h1, h2⟩
    refine Rt.cDT (by omega) (Rt.jb (Rt.ix hs.sl (by omega) (by omega) ?_))
    rw [Int.toNat_natCast, hz]
    refine Rt.cD (fun h1 => Rt.cF rfl (Rt.ix hs.sl (by omega) (by omega) ?_)) fun h1 => cont fun h => h1 h.1
    rw [Int.toNat_natCast, hz]
    exact Rt.cD (fun h2 => Rt.some' (.inr ⟨rfl, rfl, .inr ⟨rfl, rfl, z, List.mem_of_getElem? ex, h1, h2⟩⟩)) fun h2 => cont fun h => h2 h.2
theorem Rseen_spec {a b : Int} (hs : Bv .u64 w A l c ss) (hl : l < 2 ^ 62) (hn : l < n) : Rt (butteryref9_seen n [.slice A l c, .int .u64 a, .int .u64 b, .bool true] w) (RB (seenP ss a b) w) := by
  rw [butteryref9_seen_eq]
  refine Rt.fin (Rt.jb (Rt.mono (Rseen_l0 (n := n) (a := a) (b := b) hs hl l 0 n (by omega) (by omega) (by rintro ⟨t, ht, _⟩; simp at ht)) ?_))
  rintro ⟨ex, vs, w1⟩ ⟨k1, ⟨h3, h4, h5⟩ | ⟨h3, h4, h5⟩⟩
  · dsimp only at h3 h4 k1
    subst h3 h4 k1
    refine .inl ⟨.inr rfl, ?_⟩
    (repeat (first | (with_reducible (first | refine Rt.fin ?_ | refine Rt.tL ?_ | refine Rt.tI ?_ | refine Rt.tB ?_ | refine Rt.tS ?_ | refine Rt.tP ?_ | refine Rt.tD ?_ | refine Rt.tM ?_ | refine Rt.tC ?_ | refine Rt.tN ?_ | refine Rt.tA ?_ | refine Rt.tG ?_ | refine Rt.tF ?_ | refine Rt.os ?_ | refine Rt.clS ?_ | refine Rt.jmN ?_ | refine Rt.jbN ?_ | refine Rt.jbE ?_)) | ((with_reducible (first | apply Rt.ld0 | apply Rt.ld1 | apply Rt.ld2 | apply Rt.ld3 | apply Rt.ld4 | apply Rt.ld5)); first | assumption | exact Lc.kp (by assumption) (by assumption)) | ((with_reducible apply Rt.ol); first | assumption | exact cell_kp (by assumption) (by assumption)) | ((with_reducible apply Rt.ckR); focus ((repeat (first | (with_reducible (first | refine Rt.fin ?_ | refine Rt.tL ?_ | refine Rt.tI ?_ | refine Rt.tB ?_ | refine Rt.tS ?_ | refine Rt.tP ?_ | refine Rt.tD ?_ | refine Rt.tM ?_ | refine Rt.tC ?_ | refine Rt.tN ?_ | refine Rt.tA ?_ | refine Rt.tG ?_ | refine Rt.tF ?_ | refine Rt.os ?_ | refine Rt.clS ?_ | refine Rt.jmN ?_ | refine Rt.jbN ?_ | refine Rt.jbE ?_)) | ((with_reducible (first | apply Rt.ld0 | apply Rt.ld1 | apply Rt.ld2 | apply Rt.ld3 | apply Rt.ld4 | apply Rt.ld5)); first | assumption | exact Lc.kp (by assumption) (by assumption)) | ((with_reducible apply Rt.ol); first | assumption | exact cell_kp (by assumption) (by assumption)))); exact Rt.some' rfl))))
    exact Rt.endB (by simp [h5]) (Kp.rfl' _)
  · dsimp only at h3 h4 k1
    subst h3 h4 k1
    exact .inr ⟨rfl, rfl, true, _, rfl, by simp [h5], Kp.rfl' _⟩
theorem RKeep_l1 {i : Nat} {last : Bool} {w : World} (hx : Ev enEl w A l c xs) (hl : l ≤ 2 ^ 30) (hil : i < l) : ∀ (f k j : Nat) (w' : World), k + f = grp (xs.drop i) → f < j → Kp w w' →
    Rt (butteryref9_Keep.l1 n j A l c B m d last D e c5 (i : Int) ((i + k : Nat) : Int) w') fun r => r.ex = .exit 2 ∧ r.vals = [.slice A l c, .slice B m d, .bool last, .slice D e c5, .int .i64 (i : Int), .int .i64 ((i + grp (xs.drop i) : Nat) : Int)] ∧ Kp w r.w ∧ Kp w' r.w := by
  have hxl := hx.len
  obtain ⟨x, ex⟩ : ∃ x, xs[i]? = some x := ⟨_, List.getElem?_eq_getElem (by omega)⟩
  have ex0 : (xs.drop i)[0]? = some x := by rw [List.getElem?_drop, Nat.add_zero, ex]
  have hgl := grp_le (xs.drop i)
  rw [List.length_drop] at hgl
  have hgl : i + grp (xs.drop i) ≤ xs.length := by omega
  intro f
  induction f with
  | zero =>
    intro k j w' hk hj hkp
    obtain ⟨j, rfl⟩ : ∃ j', j = j' + 1 := ⟨j - 1, by omega⟩
    rw [Nat.add_zero] at hk
    subst hk
    have hkd := hkp.dr
    rw [butteryref9_Keep.l1_succ]
    refine Rt.cD (fun h => ?_) fun h => Rt.some' ⟨rfl, rfl, hkd, (Kp.rfl' _).dr⟩
    refine Rt.ixN (hx.kp hkd).sl (by omega) (by omega) fun y a B1 b1 b2 s k C1 c1 c2 ey hv g0 g1 g2 g3 => ?_
    rw [Int.toNat_natCast] at ey
    (repeat (first | (with_reducible (first | refine Rt.fin ?_ | refine Rt.tL ?_ | refine Rt.tI ?_ | refine Rt.tB ?_ | refine Rt.tS ?_ | refine Rt.tP ?_ | refine Rt.tD ?_ | refine Rt.tM ?_ | refine Rt.tC ?_ | refine Rt.tN ?_ | refine Rt.tA ?_ | refine Rt.tG ?_ | refine Rt.tF ?_ | refine Rt.os ?_ | refine Rt.clS ?_ | refine Rt.jmN ?_ | refine Rt.jbN ?_ | refine Rt.jbE ?_)) | ((with_reducible (first | apply Rt.ld0 | apply Rt.ld1 | apply Rt.ld2 | apply Rt.ld3 | apply Rt.ld4 | apply Rt.ld5)); first | assumption | exact Lc.kp (by assumption) (by assumption)) | ((with_reducible apply Rt.ol); first | assumption | exact cell_kp (by assumption) (by assumption)) | ((with_reducible apply Rt.ckR); focus ((repeat (first | (with_reducible (first | refine Rt.fin ?_ | refine Rt.tL ?_ | refine Rt.tI ?_ | refine Rt.tB ?_ | refine Rt.tS ?_ | refine Rt.tP ?_ | refine Rt.tD ?_ | refine Rt.tM ?_ | refine Rt.tC ?_ | refine Rt.tN ?_ | refine Rt.tA ?_ | refine Rt.tG ?_ | refine Rt.tF ?_ | refine Rt.os ?_ | refine Rt.clS ?_ | refine Rt.jmN ?_ | refine Rt.jbN ?_ | refine Rt.jbE ?_)) | ((with_reducible (first | apply Rt.ld0 | apply Rt.ld1 | apply Rt.ld2 | apply Rt.ld3 | apply Rt.ld4 | apply Rt.ld5)); first | assumption | exact Lc.kp (by assumption) (by assumption)) | ((with_reducible apply Rt.ol); first | assumption | exact cell_kp (by assumption) (by assumption)))); exact Rt.some' rfl))))
    refine Rt.str hv.key (Rt.ixN (hx.kp hkd).sl (by omega) (by omega) fun x' a B1 b1 b2 s k C1 c1 c2 ex' hv' g0' g1' g2' g3' => ?_)
    rw [Int.toNat_natCast, ex] at ex'
    injection ex' with ex'
    subst ex'
    (repeat (first | (with_reducible (first | refine Rt.fin ?_ | refine Rt.tL ?_ | refine Rt.tI ?_ | refine Rt.tB ?_ | refine Rt.tS ?_ | refine Rt.tP ?_ | refine Rt.tD ?_ | refine Rt.tM ?_ | refine Rt.tC ?_ | refine Rt.tN ?_ | refine Rt.tA ?_ | refine Rt.tG ?_ | refine Rt.tF ?_ | refine Rt.os ?_ | refine Rt.clS ?_ | refine Rt.jmN ?_ | refine Rt.jbN ?_ | refine Rt.jbE ?_)) | ((with_reducible (first | apply Rt.ld0 | apply Rt.ld1 | apply Rt.ld2 | apply Rt.ld3 | apply Rt.ld4 | apply Rt.ld5)); first | assumption | exact Lc.kp (by assumption) (by assumption)) | ((with_reducible apply Rt.ol); first | assumption | exact cell_kp (by assumption) (by assumption)) | ((with_reducible apply Rt.ckR); focus ((repeat (first | (with_reducible (first | refine Rt.fin ?_ | refine Rt.tL ?_ | refine Rt.tI ?_ | refine Rt.tB ?_ | refine Rt.tS ?_ | refine Rt.tP ?_ | refine Rt.tD ?_ | refine Rt.tM ?_ | refine Rt.tC ?_ | refine Rt.tN ?_ | refine Rt.tA ?_ | refine Rt.tG ?_ | refine Rt.tF ?_ | refine Rt.os ?_ | refine Rt.clS ?_ | refine Rt.jmN ?_ | refine Rt.jbN ?_ | refine Rt.jbE ?_)) | ((with_reducible (first | apply Rt.ld0 | apply Rt.ld1 | apply Rt.ld2 | apply Rt.ld3 | apply Rt.ld4 | apply Rt.ld5)); first | assumption | exact Lc.kp (by assumption) (by assumption)) | ((with_reducible apply Rt.ol); first | assumption | exact cell_kp (by assumption) (by assumption)))); exact Rt.some' rfl))))
    refine Rt.str hv'.key (Rt.cS hv.key.rng hv'.key.rng (fun h => ?_) fun h => Rt.some' ⟨rfl, rfl, hkd, (Kp.rfl' _).dr⟩)
    exact absurd h (grp_out ex0 (by rw [List.getElem?_drop]; exact ey))
  | succ f ih =>
    intro k j w' hk hj hkp
    obtain ⟨j, rfl⟩ : ∃ j', j = j' + 1 := ⟨j - 1, by omega⟩
    obtain ⟨y, ey, hyk⟩ := grp_in ex0 (k := k) (by omega)
    have ey' : xs[i + k]? = some y := by rw [← ey, List.getElem?_drop]
    have hkd := hkp.dr
    rw [butteryref9_Keep.l1_succ]
    refine Rt.cDT (by omega) (Rt.ixN (hx.kp hkd).sl (by omega) (by omega) fun y1 a B1 b1 b2 s k1 C1 c1 c2 e1 hv g0 g1 g2 g3 => ?_)
    rw [Int.toNat_natCast, ey'] at e1
    injection e1 with e1
    subst e1
    (repeat (first | (with_reducible (first | refine Rt.fin ?_ | refine Rt.tL ?_ | refine Rt.tI ?_ | refine Rt.tB ?_ | refine Rt.tS ?_ | refine Rt.tP ?_ | refine Rt.tD ?_ | refine Rt.tM ?_ | refine Rt.tC ?_ | refine Rt.tN ?_ | refine Rt.tA ?_ | refine Rt.tG ?_ | refine Rt.tF ?_ | refine Rt.os ?_ | refine Rt.clS ?_ | refine Rt.jmN ?_ | refine Rt.jbN ?_ | refine Rt.jbE ?_)) | ((with_reducible (first | apply Rt.ld0 | apply Rt.ld1 | apply Rt.ld2 | apply Rt.ld3 | apply Rt.ld4 | apply Rt.ld5)); first | assumption | exact Lc.kp (by assumption) (by assumption)) | ((with_reducible apply Rt.ol); first | assumption | exact cell_kp (by assumption) (by assumption)) | ((with_reducible apply Rt.ckR); focus ((repeat (first | (with_reducible (first | refine Rt.fin ?_ | refine Rt.tL ?_ | refine Rt.tI ?_ | refine Rt.tB ?_ | refine Rt.tS ?_ | refine Rt.tP ?_ | refine Rt.tD ?_ | refine Rt.tM ?_ | refine Rt.tC ?_ | refine Rt.tN ?_ | refine Rt.tA ?_ | refine Rt.tG ?_ | refine Rt.tF ?_ | refine Rt.os ?_ | refine Rt.clS ?_ | refine Rt.jmN ?_ | refine Rt.jbN ?_ | refine Rt.jbE ?_)) | ((with_reducible (first | apply Rt.ld0 | apply Rt.ld1 | apply Rt.ld2 | apply Rt.ld3 | apply Rt.ld4 | apply Rt.ld5)); first | assumption | exact Lc.kp (by assumption) (by assumption)) | ((with_reducible apply Rt.ol); first | assumption | exact cell_kp (by assumption) (by assumption)))); exact Rt.some' rfl))))
    refine Rt.str hv.key (Rt.ixN (hx.kp hkd).sl (by omega) (by omega) fun x' a B1 b1 b2 s k1 C1 c1 c2 ex' hv' g0' g1' g2' g3' => ?_)
    rw [Int.toNat_natCast, ex] at ex'
    injection ex' with ex'
    subst ex'
    (repeat (first | (with_reducible (first | refine Rt.fin ?_ | refine Rt.tL ?_ | refine Rt.tI ?_ | refine Rt.tB ?_ | refine Rt.tS ?_ | refine Rt.tP ?_ | refine Rt.tD ?_ | refine Rt.tM ?_ | refine Rt.tC ?_ | refine Rt.tN ?_ | refine Rt.tA ?_ | refine Rt.tG ?_ | refine Rt.tF ?_ | refine Rt.os ?_ | refine Rt.clS ?_ | refine Rt.jmN ?_ | refine Rt.jbN ?_ | refine Rt.jbE ?_)) | ((with_reducible (first | apply Rt.ld0 | apply Rt.ld1 | apply Rt.ld2 | apply Rt.ld3 | apply Rt.ld4 | apply Rt.ld5)); first | assumption | exact Lc.kp (by assumption) (by assumption)) | ((with_reducible apply Rt.ol); first | assumption | exact cell_kp (by assumption) (by assumption)) | ((with_reducible apply Rt.ckR); focus ((repeat (first | (with_reducible (first | refine Rt.fin ?_ | refine Rt.tL ?_ | refine Rt.tI ?_ | refine Rt.tB ?_ | refine Rt.tS ?_ | refine Rt.tP ?_ | refine Rt.tD ?_ | refine Rt.tM ?_ | refine Rt.tC ?_ | refine Rt.tN ?_ | refine Rt.tA ?_ | refine Rt.tG ?_ | refine Rt.tF ?_ | refine Rt.os ?_ | refine Rt.clS ?_ | refine Rt.jmN ?_ | refine Rt.jbN ?_ | refine Rt.jbE ?_)) | ((with_reducible (first | apply Rt.ld0 | apply Rt.ld1 | apply Rt.ld2 | apply Rt.ld3 | apply Rt.ld4 | apply Rt.ld5)); first | assumption | exact Lc.kp (by assumption) (by assumption)) | ((with_reducible apply Rt.ol); first | assumption | exact cell_kp (by assumption) (by assumption)))); exact Rt.some' rfl))))
    refine Rt.str hv'.key (Rt.cS hv.key.rng hv'.key.rng (fun h => ?_) fun h => absurd hyk h)
    rw [i64_in _ (by omega), show (((i + k : Nat) : Int) + 1) = ((i + (k + 1) : Nat) : Int) by omega]
    exact Rt.mono (ih (k + 1) j _ (by omega) (by omega) hkd) fun r ⟨h1, h2, h3, h4⟩ => ⟨h1, h2, h3, (Kp.rfl' w').dr.tr h4⟩
theorem stay_first {ss : List Int} {g : List En} {y : En} (h : g[0]? = some y) : stay ss (g.take 1) = [y] := by
  cases g with
  | nil => simp at h
  | cons z g => simp at h; subst h; simp [stay, stayR]
theorem en_stbS {S : Nat → Prop} (o1 : Own .u8 5 w a1 (.slice A l c) x.key) (o2 : Own .u8 5 w a2 (.slice B m d) x.val) (r1 : ∀ z ∈ x.key, (Lit.int .u8 z).wf = true) (r2 : ∀ z ∈ x.val, (Lit.int .u8 z).wf = true) (hs : s = x.seq) (hk : k = x.kind) (rs : (Lit.int .u64 x.seq).wf = true) (rk : (Lit.int .i64 x.kind).wf = true)
    (h : ∀ j, On v j ∨ S j → j < a1 ∧ j < a2) : Stb (On v) (fun w => (enEl.stb S).rd w [.slice A l c, .int .u64 s, .int .i64 k, .slice B m d] x) w := by
  intro w1 g1 w2 g2
  have g : Gx (fun j => On v j ∨ S j) w w2 := (g1.wide fun j _ h => .inl h).tr (g2.wide fun j _ h => .inr h)
  exact ⟨_, _, _, _, _, _, _, _, rfl, (o1.gx g fun j hj hv => by have := (o1.lt j hj).1; have := h j hv; omega).bv r1, hs, hk, rs, rk, (o2.gx g fun j hj hv => by have := (o2.lt j hj).1; have := h j hv; omega).bv r2⟩
theorem RKeep_l2 {S : Nat → Prop} (hS : ∀ j, S j → j < w.heap.size) {i : Nat} {last : Bool} (hk0 : w0.heap.size ≤ w.heap.size) (hx : Ev enEl w0 A l c xs) (hs : Bv .u64 w0 B m d ss) (hm : m < 2 ^ 62) (hmn : m < n) (hl : l ≤ 2 ^ 30) (hil : i < l) (hL : ∀ z ∈ xs, z.key.length ≤ 2 ^ 38 ∧ z.val.length ≤ 2 ^ 38) : ∀ (f k j : Nat) (C : Option Addr) (c8 : Nat) (w' : World), k + f = grp (xs.drop i) → f < j → Kp w0 w' → Kp w w' →
    OwnE (enEl.stb S) 34 w' w.heap.size (.slice C (stay ss ((xs.drop i).take k)).length c8) (stay ss ((xs.drop i).take k)) →
    Rt (butteryref9_Keep.l2 n j A l c B m d last D e c5 (i : Int) ((i + grp (xs.drop i) : Nat) : Int) C (stay ss ((xs.drop i).take k)).length c8 ((i + k : Nat) : Int) w') fun r => r.ex = .exit 4 ∧ ∃ C c8, r.vals = [.slice A l c, .slice B m d, .bool last, .slice D e c5, .int .i64 ((i + grp (xs.drop i) : Nat) : Int), .slice C (stay ss ((xs.drop i).take (grp (xs.drop i)))).length c8] ∧
      OwnE (enEl.stb S) 34 r.w w.heap.size (.slice C (stay ss ((xs.drop i).take (grp (xs.drop i)))).length c8) (stay ss ((xs.drop i).take (grp (xs.drop i)))) ∧ Kp w0 r.w ∧ Kp w r.w := by
  obtain ⟨t, z, hT⟩ := slE
  have hxl := hx.len
  have hgl := grp_le (xs.drop i)
  rw [List.length_drop] at hgl
  have hgl : i + grp (xs.drop i) ≤ xs.length := by omega
  intro f
  induction f with
  | zero =>
    intro k j C c8 w' hk hj hkp hkw ho
    obtain ⟨j, rfl⟩ : ∃ j', j = j' + 1 := ⟨j - 1, by omega⟩
    rw [Nat.add_zero] at hk
    subst hk
    rw [butteryref9_Keep.l2_succ]
    exact Rt.cDF (by omega) (Rt.some' ⟨rfl, C, c8, rfl, ho, hkp, hkw⟩)
  | succ f ih =>
    intro k j C c8 w' hk hj hkp hkw ho
    have hk1 : i + k < l := by omega
    obtain ⟨j, rfl⟩ : ∃ j', j = j' + 1 := ⟨j - 1, by omega⟩
    obtain ⟨y, ey'⟩ : ∃ y, xs[i + k]? = some y := ⟨_, List.getElem?_eq_getElem (by omega)⟩
    have ey : (xs.drop i)[k]? = some y := by rw [← ey', List.getElem?_drop]
    have hmem := hL y (List.mem_of_getElem? ey')
    have hkd := hkp.dr
    have hwd := (Kp.rfl' w').dr
    have hsl := stay_len ss ((xs.drop i).take k)
    rw [List.length_take] at hsl
    have hsl : (stay ss ((xs.drop i).take k)).length ≤ k := by omega
    -- an entry is put behind
    have put : ∀ (w1 : World) (B1 : Option Addr) (b1 b2 : Nat) (s1 k1 : Int) (C1 : Option Addr) (c1 c2 : Nat), Kp w' w1 → EnV w1 B1 b1 b2 s1 k1 C1 c1 c2 y → stay ss ((xs.drop i).take (k + 1)) = stay ss ((xs.drop i).take k) ++ [y] →
        Rt (Big.cl (butteryref9_Copy n [ev B1 b1 b2 s1 k1 C1 c1 c2] w1) fun vs57 w58 => Big.tC vs57 fun v59 cs60 => Big.tA v59 fun cs61 => Big.tC cs61 fun v62 cs63 => Big.tL v62 fun A64 l65 c66 => Big.tC cs63 fun v67 cs68 => Big.tI .u64 v67 fun n69 => Big.tC cs68 fun v70 cs71 => Big.tI .i64 v70 fun n72 => Big.tC cs71 fun v73 cs74 => Big.tL v73 fun A75 l76 c77 => Big.tN cs74 (Big.tN cs60 (Big.al w58 #[.slice A64 l65 c66, .int .u64 n69, .int .i64 n72, .slice A75 l76 c77] 34 fun w78 => rn Try.prog (Builtin.append_ #[22, 22] 22 #[.slice C (stay ss ((xs.drop i).take k)).length c8, .slice (some ⟨w58.heap.size, 0, none⟩) 1 1]) w78 fun v82 w83 => Big.tL v82 fun A79 l80 c81 => some (⟨.norm, [.slice A l c, .slice B m d, .bool last, .slice D e c5, .int .i64 (i : Int), .int .i64 ((i + grp (xs.drop i) : Nat) : Int), .slice A79 l80 c81, .int .i64 ((i + k : Nat) : Int)], w83⟩ : Res))))
        fun r => r.ex = .norm ∧ ∃ C c8, r.vals = [.slice A l c, .slice B m d, .bool last, .slice D e c5, .int .i64 (i : Int), .int .i64 ((i + grp (xs.drop i) : Nat) : Int), .slice C (stay ss ((xs.drop i).take (k + 1))).length c8, .int .i64 ((i + k : Nat) : Int)] ∧ Kp w0 r.w ∧ Kp w r.w ∧ OwnE (enEl.stb S) 34 r.w w.heap.size (.slice C (stay ss ((xs.drop i).take (k + 1))).length c8) (stay ss ((xs.drop i).take (k + 1))) := by
      intro w1 B1 b1 b2 s1 k1 C1 c1 c2 hk1 hv est
      have h1 := hv.key.len
      have h2 := hv.val.len
      refine Rt.cEn (Copy_spec hv (by omega) (by omega)) fun A3 c3 B3 d3 w3 o3 p3 _ k3 => ?_
      (repeat (first | (with_reducible (first | refine Rt.fin ?_ | refine Rt.tL ?_ | refine Rt.tI ?_ | refine Rt.tB ?_ | refine Rt.tS ?_ | refine Rt.tP ?_ | refine Rt.tD ?_ | refine Rt.tM ?_ | refine Rt.tC ?_ | refine Rt.tN ?_ | refine Rt.tA ?_ | refine Rt.tG ?_ | refine Rt.tF ?_ | refine Rt.os ?_ | refine Rt.clS ?_ | refine Rt.jmN ?_ | refine Rt.jbN ?_ | refine Rt.jbE ?_)) | ((with_reducible (first | apply Rt.ld0 | apply Rt.ld1 | apply Rt.ld2 | apply Rt.ld3 | apply Rt.ld4 | apply Rt.ld5)); first | assumption | exact Lc.kp (by assumption) (by assumption)) | ((with_reducible apply Rt.ol); first | assumption | exact cell_kp (by assumption) (by assumption)) | ((with_reducible apply Rt.ckR); focus ((repeat (first | (with_reducible (first | refine Rt.fin ?_ | refine Rt.tL ?_ | refine Rt.tI ?_ | refine Rt.tB ?_ | refine Rt.tS ?_ | refine Rt.tP ?_ | refine Rt.tD ?_ | refine Rt.tM ?_ | refine Rt.tC ?_ | refine Rt.tN ?_ | refine Rt.tA ?_ | refine Rt.tG ?_ | refine Rt.tF ?_ | refine Rt.os ?_ | refine Rt.clS ?_ | refine Rt.jmN ?_ | refine Rt.jbN ?_ | refine Rt.jbE ?_)) | ((with_reducible (first | apply Rt.ld0 | apply Rt.ld1 | apply Rt.ld2 | apply Rt.ld3 | apply Rt.ld4 | apply Rt.ld5)); first | assumption | exact Lc.kp (by assumption) (by assumption)) | ((with_reducible apply Rt.ol); first | assumption | exact cell_kp (by assumption) (by assumption)))); exact Rt.some' rfl))))
      have k13 := hk1.tr k3
      have ho3 := ho.kp k13
      refine Rt.app1f (E := enEl.stb S) rfl hT ho3 rfl (en_stbS (x := y) o3 p3 hv.key.rng hv.val.rng rfl rfl hv.rs hv.rk fun jj hj => ?_) (by omega) (by have := hkw.size; have := k13.size; omega) fun A7 c9 w7 o7 g7 f7 s7 => ?_
      · have h3 := hk1.size
        have h4 := hkw.size
        rcases hj with hj | hj
        · have h1 := (ho.lt jj hj).2
          exact ⟨by omega, by omega⟩
        · have h1 := hS jj hj
          exact ⟨by omega, by omega⟩
      (repeat (first | (with_reducible (first | refine Rt.fin ?_ | refine Rt.tL ?_ | refine Rt.tI ?_ | refine Rt.tB ?_ | refine Rt.tS ?_ | refine Rt.tP ?_ | refine Rt.tD ?_ | refine Rt.tM ?_ | refine Rt.tC ?_ | refine Rt.tN ?_ | refine Rt.tA ?_ | refine Rt.tG ?_ | refine Rt.tF ?_ | refine Rt.os ?_ | refine Rt.clS ?_ | refine Rt.jmN ?_ | refine Rt.jbN ?_ | refine Rt.jbE ?_)) | ((with_reducible (first | apply Rt.ld0 | apply Rt.ld1 | apply Rt.ld2 | apply Rt.ld3 | apply Rt.ld4 | apply Rt.ld5)); first | assumption | exact Lc.kp (by assumption) (by assumption)) | ((with_reducible apply Rt.ol); first | assumption | exact cell_kp (by assumption) (by assumption)) | ((with_reducible apply Rt.ckR); focus ((repeat (first | (with_reducible (first | refine Rt.fin ?_ | refine Rt.tL ?_ | refine Rt.tI ?_ | refine Rt.tB ?_ | refine Rt.tS ?_ | refine Rt.tP ?_ | refine Rt.tD ?_ | refine Rt.tM ?_ | refine Rt.tC ?_ | refine Rt.tN ?_ | refine Rt.tA ?_ | refine Rt.tG ?_ | refine Rt.tF ?_ | refine Rt.os ?_ | refine Rt.clS ?_ | refine Rt.jmN ?_ | refine Rt.jbN ?_ | refine Rt.jbE ?_)) | ((with_reducible (first | apply Rt.ld0 | apply Rt.ld1 | apply Rt.ld2 | apply Rt.ld3 | apply Rt.ld4 | apply Rt.ld5)); first | assumption | exact Lc.kp (by assumption) (by assumption)) | ((with_reducible apply Rt.ol); first | assumption | exact cell_kp (by assumption) (by assumption)))); exact Rt.some' rfl))))
      have e4 : (stay ss ((xs.drop i).take k)).length + 1 = (stay ss ((xs.drop i).take (k + 1))).length := by rw [est, List.length_append]; rfl
      rw [e4] at o7 ⊢
      rw [← est] at o7
      exact Rt.some' ⟨rfl, A7, c9, rfl, (hkp.tr k13).tx g7 fun jj hj => Nat.le_trans hk0 (ho.lt jj hj).1, (hkw.tr k13).tx g7 fun jj hj => (ho.lt jj hj).1, o7⟩
    rw [butteryref9_Keep.l2_succ]
    refine Rt.cDT (by omega) (Rt.jb (Rt.mono (Q' := fun r => r.ex = .norm ∧ ∃ C c8, r.vals = [.slice A l c, .slice B m d, .bool last, .slice D e c5, .int .i64 (i : Int), .int .i64 ((i + grp (xs.drop i) : Nat) : Int), .slice C (stay ss ((xs.drop i).take (k + 1))).length c8, .int .i64 ((i + k : Nat) : Int)] ∧ Kp w0 r.w ∧ Kp w r.w ∧ OwnE (enEl.stb S) 34 r.w w.heap.size (.slice C (stay ss ((xs.drop i).take (k + 1))).length c8) (stay ss ((xs.drop i).take (k + 1)))) ?_ ?_))
    · refine Rt.cQ (fun h => ?_) fun h => ?_
      · obtain rfl : k = 0 := by omega
        refine Rt.ixN (hx.kp hkd).sl (by omega) (by omega) fun y1 a B1 b1 b2 s k1 C1 c1 c2 e1 hv g0 g1 g2 g3 => ?_
        rw [Int.toNat_natCast, ey'] at e1
        injection e1 with e1
        subst e1
        (repeat (first | (with_reducible (first | refine Rt.fin ?_ | refine Rt.tL ?_ | refine Rt.tI ?_ | refine Rt.tB ?_ | refine Rt.tS ?_ | refine Rt.tP ?_ | refine Rt.tD ?_ | refine Rt.tM ?_ | refine Rt.tC ?_ | refine Rt.tN ?_ | refine Rt.tA ?_ | refine Rt.tG ?_ | refine Rt.tF ?_ | refine Rt.os ?_ | refine Rt.clS ?_ | refine Rt.jmN ?_ | refine Rt.jbN ?_ | refine Rt.jbE ?_)) | ((with_reducible (first | apply Rt.ld0 | apply Rt.ld1 | apply Rt.ld2 | apply Rt.ld3 | apply Rt.ld4 | apply Rt.ld5)); first | assumption | exact Lc.kp (by assumption) (by assumption)) | ((with_reducible apply Rt.ol); first | assumption | exact cell_kp (by assumption) (by assumption)) | ((with_reducible apply Rt.ckR); focus ((repeat (first | (with_reducible (first | refine Rt.fin ?_ | refine Rt.tL ?_ | refine Rt.tI ?_ | refine Rt.tB ?_ | refine Rt.tS ?_ | refine Rt.tP ?_ | refine Rt.tD ?_ | refine Rt.tM ?_ | refine Rt.tC ?_ | refine Rt.tN ?_ | refine Rt.tA ?_ | refine Rt.tG ?_ | refine Rt.tF ?_ | refine Rt.os ?_ | refine Rt.clS ?_ | refine Rt.jmN ?_ | refine Rt.jbN ?_ | refine Rt.jbE ?_)) | ((with_reducible (first | apply Rt.ld0 | apply Rt.ld1 | apply Rt.ld2 | apply Rt.ld3 | apply Rt.ld4 | apply Rt.ld5)); first | assumption | exact Lc.kp (by assumption) (by assumption)) | ((with_reducible apply Rt.ol); first | assumption | exact cell_kp (by assumption) (by assumption)))); exact Rt.some' rfl))))
        refine put _ _ _ _ _ _ _ _ _ hwd hv ?_
        rw [stay_first ey]; simp [stay]
      · obtain ⟨p, ep'⟩ : ∃ p, xs[i + k - 1]? = some p := ⟨_, List.getElem?_eq_getElem (by omega)⟩
        have ep : (xs.drop i)[k - 1]? = some p := by rw [← ep', List.getElem?_drop]; congr 1; omega
        have est := stay_at (ss := ss) (l := xs.drop i) (i := k) (by omega) ep ey
        rw [i64_in (((i + k : Nat) : Int) - 1) (by omega)]
        refine Rt.ixN (hx.kp hkd).sl (by omega) (by omega) fun y1 a B1 b1 b2 s k1 C1 c1 c2 e1 hv g0 g1 g2 g3 => ?_
        rw [Int.toNat_natCast, ey'] at e1
        injection e1 with e1
        subst e1
        (repeat (first | (with_reducible (first | refine Rt.fin ?_ | refine Rt.tL ?_ | refine Rt.tI ?_ | refine Rt.tB ?_ | refine Rt.tS ?_ | refine Rt.tP ?_ | refine Rt.tD ?_ | refine Rt.tM ?_ | refine Rt.tC ?_ | refine Rt.tN ?_ | refine Rt.tA ?_ | refine Rt.tG ?_ | refine Rt.tF ?_ | refine Rt.os ?_ | refine Rt.clS ?_ | refine Rt.jmN ?_ | refine Rt.jbN ?_ | refine Rt.jbE ?_)) | ((with_reducible (first | apply Rt.ld0 | apply Rt.ld1 | apply Rt.ld2 | apply Rt.ld3 | apply Rt.ld4 | apply Rt.ld5)); first | assumption | exact Lc.kp (by assumption) (by assumption)) | ((with_reducible apply Rt.ol); first | assumption | exact cell_kp (by assumption) (by assumption)) | ((with_reducible apply Rt.ckR); focus ((repeat (first | (with_reducible (first | refine Rt.fin ?_ | refine Rt.tL ?_ | refine Rt.tI ?_ | refine Rt.tB ?_ | refine Rt.tS ?_ | refine Rt.tP ?_ | refine Rt.tD ?_ | refine Rt.tM ?_ | refine Rt.tC ?_ | refine Rt.tN ?_ | refine Rt.tA ?_ | refine Rt.tG ?_ | refine Rt.tF ?_ | refine Rt.os ?_ | refine Rt.clS ?_ | refine Rt.jmN ?_ | refine Rt.jbN ?_ | refine Rt.jbE ?_)) | ((with_reducible (first | apply Rt.ld0 | apply Rt.ld1 | apply Rt.ld2 | apply Rt.ld3 | apply Rt.ld4 | apply Rt.ld5)); first | assumption | exact Lc.kp (by assumption) (by assumption)) | ((with_reducible apply Rt.ol); first | assumption | exact cell_kp (by assumption) (by assumption)))); exact Rt.some' rfl))))
        refine Rt.ixN (hx.kp hkd).sl (by omega) (by omega) fun p1 a B1 b1 b2 s k1 C1 c1 c2 e1 hv' g0 g1 g2 g3 => ?_
        rw [show (((i + k : Nat) : Int) - 1).toNat = i + k - 1 by omega, ep'] at e1
        injection e1 with e1
        subst e1
        (repeat (first | (with_reducible (first | refine Rt.fin ?_ | refine Rt.tL ?_ | refine Rt.tI ?_ | refine Rt.tB ?_ | refine Rt.tS ?_ | refine Rt.tP ?_ | refine Rt.tD ?_ | refine Rt.tM ?_ | refine Rt.tC ?_ | refine Rt.tN ?_ | refine Rt.tA ?_ | refine Rt.tG ?_ | refine Rt.tF ?_ | refine Rt.os ?_ | refine Rt.clS ?_ | refine Rt.jmN ?_ | refine Rt.jbN ?_ | refine Rt.jbE ?_)) | ((with_reducible (first | apply Rt.ld0 | apply Rt.ld1 | apply Rt.ld2 | apply Rt.ld3 | apply Rt.ld4 | apply Rt.ld5)); first | assumption | exact Lc.kp (by assumption) (by assumption)) | ((with_reducible apply Rt.ol); first | assumption | exact cell_kp (by assumption) (by assumption)) | ((with_reducible apply Rt.ckR); focus ((repeat (first | (with_reducible (first | refine Rt.fin ?_ | refine Rt.tL ?_ | refine Rt.tI ?_ | refine Rt.tB ?_ | refine Rt.tS ?_ | refine Rt.tP ?_ | refine Rt.tD ?_ | refine Rt.tM ?_ | refine Rt.tC ?_ | refine Rt.tN ?_ | refine Rt.tA ?_ | refine Rt.tG ?_ | refine Rt.tF ?_ | refine Rt.os ?_ | refine Rt.clS ?_ | refine Rt.jmN ?_ | refine Rt.jbN ?_ | refine Rt.jbE ?_)) | ((with_reducible (first | apply Rt.ld0 | apply Rt.ld1 | apply Rt.ld2 | apply Rt.ld3 | apply Rt.ld4 | apply Rt.ld5)); first | assumption | exact Lc.kp (by assumption) (by assumption)) | ((with_reducible apply Rt.ol); first | assumption | exact cell_kp (by assumption) (by assumption)))); exact Rt.some' rfl))))
        rw [hv.seq, hv'.seq]
        refine Rt.cBo (Rseen_spec (hs.kp hkd) hm hmn) fun b w1 hb k1 => ?_
        have kw1 := hwd.tr k1
        cases b with
        | false =>
          have hnp : ¬ seenP ss y.seq p.seq := fun h => by simpa using hb.2 h
          rw [if_neg hnp, List.append_nil] at est
          refine Rt.cF rfl ?_
          rw [est]
          exact Rt.some' ⟨rfl, C, c8, rfl, hkp.tr kw1, hkw.tr kw1, ho.kp kw1⟩
        | true =>
          rw [if_pos (hb.1 rfl)] at est
          refine Rt.cT rfl (Rt.ixN (hx.kp (hkp.tr kw1)).sl (by omega) (by omega) fun y1 a B1 b1 b2 s k1 C1 c1 c2 e1 hv g0 g1 g2 g3 => ?_)
          rw [Int.toNat_natCast, ey'] at e1
          injection e1 with e1
          subst e1
          (repeat (first | (with_reducible (first | refine Rt.fin ?_ | refine Rt.tL ?_ | refine Rt.tI ?_ | refine Rt.tB ?_ | refine Rt.tS ?_ | refine Rt.tP ?_ | refine Rt.tD ?_ | refine Rt.tM ?_ | refine Rt.tC ?_ | refine Rt.tN ?_ | refine Rt.tA ?_ | refine Rt.tG ?_ | refine Rt.tF ?_ | refine Rt.os ?_ | refine Rt.clS ?_ | refine Rt.jmN ?_ | refine Rt.jbN ?_ | refine Rt.jbE ?_)) | ((with_reducible (first | apply Rt.ld0 | apply Rt.ld1 | apply Rt.ld2 | apply Rt.ld3 | apply Rt.ld4 | apply Rt.ld5)); first | assumption | exact Lc.kp (by assumption) (by assumption)) | ((with_reducible apply Rt.ol); first | assumption | exact cell_kp (by assumption) (by assumption)) | ((with_reducible apply Rt.ckR); focus ((repeat (first | (with_reducible (first | refine Rt.fin ?_ | refine Rt.tL ?_ | refine Rt.tI ?_ | refine Rt.tB ?_ | refine Rt.tS ?_ | refine Rt.tP ?_ | refine Rt.tD ?_ | refine Rt.tM ?_ | refine Rt.tC ?_ | refine Rt.tN ?_ | refine Rt.tA ?_ | refine Rt.tG ?_ | refine Rt.tF ?_ | refine Rt.os ?_ | refine Rt.clS ?_ | refine Rt.jmN ?_ | refine Rt.jbN ?_ | refine Rt.jbE ?_)) | ((with_reducible (first | apply Rt.ld0 | apply Rt.ld1 | apply Rt.ld2 | apply Rt.ld3 | apply Rt.ld4 | apply Rt.ld5)); first | assumption | exact Lc.kp (by assumption) (by assumption)) | ((with_reducible apply Rt.ol); first | assumption | exact cell_kp (by assumption) (by assumption)))); exact Rt.some' rfl))))
          exact put _ _ _ _ _ _ _ _ _ kw1 hv est
    · rintro ⟨ex, vs, w4⟩ ⟨h1, C', c9, h2, k4, k5, o4⟩
      dsimp only at h1 h2 k4 k5 o4
      subst h1 h2
      refine .inl ⟨.inl rfl, ?_⟩
      dsimp only
      (repeat (first | (with_reducible (first | refine Rt.fin ?_ | refine Rt.tL ?_ | refine Rt.tI ?_ | refine Rt.tB ?_ | refine Rt.tS ?_ | refine Rt.tP ?_ | refine Rt.tD ?_ | refine Rt.tM ?_ | refine Rt.tC ?_ | refine Rt.tN ?_ | refine Rt.tA ?_ | refine Rt.tG ?_ | refine Rt.tF ?_ | refine Rt.os ?_ | refine Rt.clS ?_ | refine Rt.jmN ?_ | refine Rt.jbN ?_ | refine Rt.jbE ?_)) | ((with_reducible (first | apply Rt.ld0 | apply Rt.ld1 | apply Rt.ld2 | apply Rt.ld3 | apply Rt.ld4 | apply Rt.ld5)); first | assumption | exact Lc.kp (by assumption) (by assumption)) | ((with_reducible apply Rt.ol); first | assumption | exact cell_kp (by assumption) (by assumption)) | ((with_reducible apply Rt.ckR); focus ((repeat (first | (with_reducible (first | refine Rt.fin ?_ | refine Rt.tL ?_ | refine Rt.tI ?_ | refine Rt.tB ?_ | refine Rt.tS ?_ | refine Rt.tP ?_ | refine Rt.tD ?_ | refine Rt.tM ?_ | refine Rt.tC ?_ | refine Rt.tN ?_ | refine Rt.tA ?_ | refine Rt.tG ?_ | refine Rt.tF ?_ | refine Rt.os ?_ | refine Rt.clS ?_ | refine Rt.jmN ?_ | refine Rt.jbN ?_ | refine Rt.jbE ?_)) | ((with_reducible (first | apply Rt.ld0 | apply Rt.ld1 | apply Rt.ld2 | apply Rt.ld3 | apply Rt.ld4 | apply Rt.ld5)); first | assumption | exact Lc.kp (by assumption) (by assumption)) | ((with_reducible apply Rt.ol); first | assumption | exact cell_kp (by assumption) (by assumption)))); exact Rt.some' rfl))))
      rw [i64_in _ (by omega), show (((i + k : Nat) : Int) + 1) = ((i + (k + 1) : Nat) : Int) by omega]
      exact ih (k + 1) j C' c9 w4 (by omega) (by omega) k4 k5 o4
theorem Rt.ixS {S : Nat → Prop} (hs : SlE (enEl.stb S) w A l xs) {i : Int} (h0 : 0 ≤ i) (h1 : i < l) {f : Addr → Option α}
    (h : ∀ x a B b1 b2 s k C c1 c2, xs[i.toNat]? = some x → EnV w B b1 b2 s k C c1 c2 x → w.cell? a = some (.slice B b1 b2) → w.cell? (a.add 1) = some (.int .u64 s) → w.cell? (a.add 2) = some (.int .i64 k) → w.cell? (a.add 3) = some (.slice C c1 c2) → Rt (f a) Q) : Rt (ixA A l i 4 f) Q :=
  Rt.ixN hs.unstb h0 h1 h
theorem RKeep_l3 {S : Nat → Prop} {q : Int} (hs : Bv .u64 w B m d ss) (hpos : ∀ t ∈ ss, 0 ≤ t) (hm : m < 2 ^ 62) (hn : m < n) {last : Bool} : ∀ (f j : Nat) (xs : List En) (C : Option Addr) (c8 : Nat) (w' : World), xs.length = f → f ≤ 2 ^ 40 → f < j → Kp w w' → Ev (enEl.stb S) w' C f c8 xs →
    Rt (butteryref9_Keep.l3 n j A l c B m d last D e c5 q C f c8 w') fun r => r.ex = .exit 6 ∧ ∃ C c8, r.vals = [.slice A l c, .slice B m d, .bool last, .slice D e c5, .int .i64 q, .slice C (trim ss last xs).length c8] ∧ Ev (enEl.stb S) r.w C (trim ss last xs).length c8 (trim ss last xs) ∧ Kp w r.w := by
  intro f
  induction f with
  | zero =>
    intro j xs C c8 w' hq h40 hj hk hx
    obtain ⟨j, rfl⟩ : ∃ j', j = j' + 1 := ⟨j - 1, by omega⟩
    obtain rfl : xs = [] := List.length_eq_zero_iff.1 hq
    rw [butteryref9_Keep.l3_succ]
    have e : trim ss last [] = [] := by unfold trim; split <;> rfl
    cases last with
    | false => exact Rt.cF rfl (Rt.some' ⟨rfl, C, c8, by rw [e]; rfl, by rw [e]; exact hx, hk⟩)
    | true => exact Rt.cT rfl (Rt.cDF (by omega) (Rt.some' ⟨rfl, C, c8, by rw [e]; rfl, by rw [e]; exact hx, hk⟩))
  | succ f ih =>
    intro j xs C c8 w' hq h40 hj hk hx
    obtain ⟨j, rfl⟩ : ∃ j', j = j' + 1 := ⟨j - 1, by omega⟩
    obtain ⟨ys, y, rfl⟩ : ∃ ys y, xs = ys ++ [y] := ⟨xs.dropLast, xs.getLast (by intro h; rw [h] at hq; simp at hq), (List.dropLast_concat_getLast _).symm⟩
    have hq' : ys.length = f := by simpa using hq
    rw [butteryref9_Keep.l3_succ]
    cases last with
    | false => exact Rt.cF rfl (Rt.some' ⟨rfl, C, c8, by simp [trim, hq'], by simp [trim, hq']; exact hx, hk⟩)
    | true =>
      rw [trim_snoc, i64_in _ (by omega)]
      refine Rt.cT rfl (Rt.cDT (by omega) (Rt.ixS hx.sl (by omega) (by omega) fun z a B1 b1 b2 s k C1 c1 c2 ez hv g0 g1 g2 g3 => ?_))
      have ei : (((f + 1 : Nat) : Int) - 1).toNat = f := by omega
      rw [ei] at ez
      have ez : y = z := by simpa [← hq'] using ez
      subst ez
      have hkd := hv.kind
      have hsq := hv.seq
      (repeat (first | (with_reducible (first | refine Rt.fin ?_ | refine Rt.tL ?_ | refine Rt.tI ?_ | refine Rt.tB ?_ | refine Rt.tS ?_ | refine Rt.tP ?_ | refine Rt.tD ?_ | refine Rt.tM ?_ | refine Rt.tC ?_ | refine Rt.tN ?_ | refine Rt.tA ?_ | refine Rt.tG ?_ | refine Rt.tF ?_ | refine Rt.os ?_ | refine Rt.clS ?_ | refine Rt.jmN ?_ | refine Rt.jbN ?_ | refine Rt.jbE ?_)) | ((with_reducible (first | apply Rt.ld0 | apply Rt.ld1 | apply Rt.ld2 | apply Rt.ld3 | apply Rt.ld4 | apply Rt.ld5)); first | assumption | exact Lc.kp (by assumption) (by assumption)) | ((with_reducible apply Rt.ol); first | assumption | exact cell_kp (by assumption) (by assumption)) | ((with_reducible apply Rt.ckR); focus ((repeat (first | (with_reducible (first | refine Rt.fin ?_ | refine Rt.tL ?_ | refine Rt.tI ?_ | refine Rt.tB ?_ | refine Rt.tS ?_ | refine Rt.tP ?_ | refine Rt.tD ?_ | refine Rt.tM ?_ | refine Rt.tC ?_ | refine Rt.tN ?_ | refine Rt.tA ?_ | refine Rt.tG ?_ | refine Rt.tF ?_ | refine Rt.os ?_ | refine Rt.clS ?_ | refine Rt.jmN ?_ | refine Rt.jbN ?_ | refine Rt.jbE ?_)) | ((with_reducible (first | apply Rt.ld0 | apply Rt.ld1 | apply Rt.ld2 | apply Rt.ld3 | apply Rt.ld4 | apply Rt.ld5)); first | assumption | exact Lc.kp (by assumption) (by assumption)) | ((with_reducible apply Rt.ol); first | assumption | exact cell_kp (by assumption) (by assumption)))); exact Rt.some' rfl))))
      refine Rt.al3 fun w1 l1 k1 s1 => ?_
      have hk1 := hk.tr k1
      (repeat (first | (with_reducible (first | refine Rt.fin ?_ | refine Rt.tL ?_ | refine Rt.tI ?_ | refine Rt.tB ?_ | refine Rt.tS ?_ | refine Rt.tP ?_ | refine Rt.tD ?_ | refine Rt.tM ?_ | refine Rt.tC ?_ | refine Rt.tN ?_ | refine Rt.tA ?_ | refine Rt.tG ?_ | refine Rt.tF ?_ | refine Rt.os ?_ | refine Rt.clS ?_ | refine Rt.jmN ?_ | refine Rt.jbN ?_ | refine Rt.jbE ?_)) | ((with_reducible (first | apply Rt.ld0 | apply Rt.ld1 | apply Rt.ld2 | apply Rt.ld3 | apply Rt.ld4 | apply Rt.ld5)); first | assumption | exact Lc.kp (by assumption) (by assumption)) | ((with_reducible apply Rt.ol); first | assumption | exact cell_kp (by assumption) (by assumption)) | ((with_reducible apply Rt.ckR); focus ((repeat (first | (with_reducible (first | refine Rt.fin ?_ | refine Rt.tL ?_ | refine Rt.tI ?_ | refine Rt.tB ?_ | refine Rt.tS ?_ | refine Rt.tP ?_ | refine Rt.tD ?_ | refine Rt.tM ?_ | refine Rt.tC ?_ | refine Rt.tN ?_ | refine Rt.tA ?_ | refine Rt.tG ?_ | refine Rt.tF ?_ | refine Rt.os ?_ | refine Rt.clS ?_ | refine Rt.jmN ?_ | refine Rt.jbN ?_ | refine Rt.jbE ?_)) | ((with_reducible (first | apply Rt.ld0 | apply Rt.ld1 | apply Rt.ld2 | apply Rt.ld3 | apply Rt.ld4 | apply Rt.ld5)); first | assumption | exact Lc.kp (by assumption) (by assumption)) | ((with_reducible apply Rt.ol); first | assumption | exact cell_kp (by assumption) (by assumption)))); exact Rt.some' rfl))))
      refine Rt.cN (fun h => ?_) fun h => ?_
      · (repeat (first | (with_reducible (first | refine Rt.fin ?_ | refine Rt.tL ?_ | refine Rt.tI ?_ | refine Rt.tB ?_ | refine Rt.tS ?_ | refine Rt.tP ?_ | refine Rt.tD ?_ | refine Rt.tM ?_ | refine Rt.tC ?_ | refine Rt.tN ?_ | refine Rt.tA ?_ | refine Rt.tG ?_ | refine Rt.tF ?_ | refine Rt.os ?_ | refine Rt.clS ?_ | refine Rt.jmN ?_ | refine Rt.jbN ?_ | refine Rt.jbE ?_)) | ((with_reducible (first | apply Rt.ld0 | apply Rt.ld1 | apply Rt.ld2 | apply Rt.ld3 | apply Rt.ld4 | apply Rt.ld5)); first | assumption | exact Lc.kp (by assumption) (by assumption)) | ((with_reducible apply Rt.ol); first | assumption | exact cell_kp (by assumption) (by assumption)) | ((with_reducible apply Rt.ckR); focus ((repeat (first | (with_reducible (first | refine Rt.fin ?_ | refine Rt.tL ?_ | refine Rt.tI ?_ | refine Rt.tB ?_ | refine Rt.tS ?_ | refine Rt.tP ?_ | refine Rt.tD ?_ | refine Rt.tM ?_ | refine Rt.tC ?_ | refine Rt.tN ?_ | refine Rt.tA ?_ | refine Rt.tG ?_ | refine Rt.tF ?_ | refine Rt.os ?_ | refine Rt.clS ?_ | refine Rt.jmN ?_ | refine Rt.jbN ?_ | refine Rt.jbE ?_)) | ((with_reducible (first | apply Rt.ld0 | apply Rt.ld1 | apply Rt.ld2 | apply Rt.ld3 | apply Rt.ld4 | apply Rt.ld5)); first | assumption | exact Lc.kp (by assumption) (by assumption)) | ((with_reducible apply Rt.ol); first | assumption | exact cell_kp (by assumption) (by assumption)))); exact Rt.some' rfl))))
        rw [hsq]
        refine Rt.cBo (Rseen_spec (a := 0) (b := y.seq) (hs.kp hk1) hm hn) fun b w2 hb k2 => ?_
        have hbb : seenP ss 0 y.seq ↔ belowP ss y.seq := ⟨fun ⟨t, h1, _, h3⟩ => ⟨t, h1, h3⟩, fun ⟨t, h1, h3⟩ => ⟨t, h1, hpos t h1, h3⟩⟩
        rw [hbb] at hb
        have hk2 := hk1.tr k2
        cases b with
        | true =>
          refine Rt.cT rfl ?_
          have hg : ¬ gone ss y := fun hg => hg.2 (hb.1 rfl)
          rw [if_neg hg, hq]
          exact Rt.some' ⟨rfl, C, c8, rfl, hx.kp (k1.tr k2), hk2⟩
        | false =>
          have hg : gone ss y := ⟨by rw [← hkd]; exact h, fun hb' => by simpa using hb.2 hb'⟩
          rw [if_pos hg]
          refine Rt.cF rfl (Rt.cutE (hx.kp (k1.tr k2)) rfl (by omega) (by omega) (by omega) fun A' hx' => ?_)
          rw [ei] at hx' ⊢
          have e1 : List.drop (Int.toNat 0) (List.take f (ys ++ [y])) = ys := by rw [← hq']; simp
          rw [e1] at hx'
          exact ih j ys A' _ w2 hq' (by omega) (by omega) hk2 hx'
      · have hg : ¬ gone ss y := fun hg => h (by rw [hkd]; exact hg.1)
        rw [if_neg hg, hq]
        exact Rt.some' ⟨rfl, C, c8, rfl, hx.kp k1, hk1⟩
end
end Go.Proofs.Ytoilmnplocfipaa.Dr
