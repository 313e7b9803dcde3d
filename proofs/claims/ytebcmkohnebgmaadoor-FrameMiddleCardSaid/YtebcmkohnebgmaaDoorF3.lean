/- Frames: a piece is read. -/
import Derived.Test.YtebcmkohnebgmaaDoorF2
import Derived.Test.YtebcmkohnebgmaaDoorM9
namespace Go.Proofs.YtebcmkohnebgmaaDoor.Fr
open Go Big Go.RowKit Go.IntWalk Crc
set_option linter.unusedVariables false
set_option linter.unusedSimpArgs false
section
variable {α : Type} {Q : α → Prop} {n : Nat} {w w0 w1 : World} {A B C : Option Addr} {l c d base lo co at_ : Nat} {k : Int} {x r out o zs s : List Int}
theorem Rt.ixC {K : IntKind} {xs : List Int} (hs : Sl K w A l xs) {i : Int} (h0 : 0 ≤ i) (h1 : i < l) {f : Addr → Option α} (h : ∀ a, w.cell? a = some (.int K (xs.getD i.toNat 0)) → Rt (f a) Q) : Rt (ixA A l i 1 f) Q := by
  obtain ⟨a, rfl, hc⟩ := hs.at_ h0 h1
  have e : ixA (some a) l i 1 f = f (a.add i.toNat) := by
    unfold ixA
    simp only
    rw [if_pos ⟨h0, h1⟩, Nat.mul_one]
  rw [e]; exact h _ hc
theorem Rt.out2 {b : Nat} {x y : Value} {k cl : Int} {E : Option Addr} {p e : Nat} {Q : Res → Prop} (hl : Lc w b [x, y]) (hk : Kp w0 w) (hb : w0.heap.size ≤ b) (h : ∀ w', Kp w0 w' → (w.heap.size ≤ w'.heap.size) → Q ⟨.ret, [.agg #[.int .u8 k, .slice E p e], .int .i64 cl], w'⟩) :
    Rt (stC w ⟨b, 0, none⟩ (.int .u8 k) fun w16 => stC w16 (Addr.add ⟨b, 0, none⟩ 1) (.slice E p e) fun w17 => opt (w17.cell? ⟨b, 0, none⟩) fun v18 => tI .u8 v18 fun n19 => opt (w17.cell? (Addr.add ⟨b, 0, none⟩ 1)) fun v20 => tL v20 fun A21 l22 c23 => some (⟨.ret, [.agg #[.int .u8 n19, .slice A21 l22 c23], .int .i64 cl], w17⟩ : Res)) Q := by
  refine Rt.st0 hl fun w2 l2 g2 => Rt.st1 l2 fun w3 l3 g3 => ?_
  (repeat (first | (with_reducible (first | refine Rt.fin ?_ | refine Rt.tL ?_ | refine Rt.tI ?_ | refine Rt.tB ?_ | refine Rt.tS ?_ | refine Rt.tP ?_ | refine Rt.tD ?_ | refine Rt.tM ?_ | refine Rt.tC ?_ | refine Rt.tN ?_ | refine Rt.tA ?_ | refine Rt.tG ?_ | refine Rt.tF ?_ | refine Rt.os ?_ | refine Rt.clS ?_ | refine Rt.jmN ?_ | refine Rt.jbN ?_ | refine Rt.jbE ?_)) | ((with_reducible (first | apply Rt.ld0 | apply Rt.ld1 | apply Rt.ld2 | apply Rt.ld3 | apply Rt.ld4 | apply Rt.ld5)); first | assumption | exact Lc.kp (by assumption) (by assumption)) | ((with_reducible apply Rt.ol); first | assumption | exact cell_kp (by assumption) (by assumption)) | ((with_reducible apply Rt.ckR); focus ((repeat (first | (with_reducible (first | refine Rt.fin ?_ | refine Rt.tL ?_ | refine Rt.tI ?_ | refine Rt.tB ?_ | refine Rt.tS ?_ | refine Rt.tP ?_ | refine Rt.tD ?_ | refine Rt.tM ?_ | refine Rt.tC ?_ | refine Rt.tN ?_ | refine Rt.tA ?_ | refine Rt.tG ?_ | refine Rt.tF ?_ | refine Rt.os ?_ | refine Rt.clS ?_ | refine Rt.jmN ?_ | refine Rt.jbN ?_ | refine Rt.jbE ?_)) | ((with_reducible (first | apply Rt.ld0 | apply Rt.ld1 | apply Rt.ld2 | apply Rt.ld3 | apply Rt.ld4 | apply Rt.ld5)); first | assumption | exact Lc.kp (by assumption) (by assumption)) | ((with_reducible apply Rt.ol); first | assumption | exact cell_kp (by assumption) (by assumption)))); exact Rt.some' rfl))))
  have hg := g2.tr g3
  exact Rt.some' (h w3 (hk.tx hg fun j hj => by subst hj; exact hb) hg.size)
/-- The class that a piece gives by itself. -/
def nextC (a : Nat) (s : List Int) : Int :=
  if s.length < 7 then 1
  else if 121 - a % 128 < cnt s then 2
  else if s.length < 7 + cnt s then 1
  else if (1 ≤ kindAt s ∧ kindAt s ≤ 4) ∧ le (s.take 4) = sm (kindAt s :: body s) then 0
  else 2
theorem lookS_next {a : Nat} {s : List Int} {wi : Bool} (h : s ≠ []) : lookS sm a s wi = if nextC a s = 0 then (if (wi = true ↔ 3 ≤ kindAt s) then .go (7 + cnt s) (body s) (decide (kindAt s = 2 ∨ kindAt s = 3)) else .stop 2) else .stop (nextC a s) := by
  unfold lookS nextC
  rw [if_neg h]
  by_cases h1 : s.length < 7
  · rw [if_pos h1, if_pos h1]; rfl
  rw [if_neg h1, if_neg h1]
  by_cases h2 : 121 - a % 128 < cnt s
  · rw [if_pos h2, if_pos h2]; rfl
  rw [if_neg h2, if_neg h2]
  by_cases h3 : s.length < 7 + cnt s
  · rw [if_pos h3, if_pos h3]; rfl
  rw [if_neg h3, if_neg h3]
  by_cases h4 : (1 ≤ kindAt s ∧ kindAt s ≤ 4) ∧ le (s.take 4) = sm (kindAt s :: body s)
  · by_cases h5 : (wi = true ↔ 3 ≤ kindAt s)
    · rw [if_pos ⟨h4.1, h4.2, h5⟩, if_pos h4, if_pos rfl, if_pos h5]
    · rw [if_neg (fun h => h5 h.2.2), if_pos h4, if_pos rfl, if_neg h5]
  · rw [if_neg (fun h => h4 ⟨h.1, h.2.1⟩), if_neg h4]; rfl
theorem seven {s : List Int} (h : 7 ≤ s.length) : ∃ a b c d e f g t, s = a :: b :: c :: d :: e :: f :: g :: t := by
  match s, h with
  | a :: b :: c :: d :: e :: f :: g :: t, _ => exact ⟨_, _, _, _, _, _, _, _, rfl⟩
theorem getD_drop (zs : List Int) (i j : Nat) : (zs.drop i).getD j 0 = zs.getD (i + j) 0 := by
  simp [List.getD_eq_getElem?_getD]
theorem next_spec (hn : 2 ^ 50 < n) (ht : Sl .u32 w A 256 tab) (hk : Kp w0 w) (hb0 : Bv .u8 w0 B l d zs) (hl : l ≤ 2 ^ 38) (ha : at_ ≤ l) (hm : at_ % 128 ≤ 121) :
    Rt (frame_next n [.slice A 256 c, .slice B l d, .int .i64 (at_ : Int)] w) fun r => ∃ k E p e w', r = ([.agg #[.int .u8 k, .slice E p e], .int .i64 (nextC at_ (zs.drop at_))], w') ∧ Kp w w' ∧ (nextC at_ (zs.drop at_) = 0 → k = kindAt (zs.drop at_) ∧ Bv .u8 w0 E p e (body (zs.drop at_))) := by
  have hb := hb0.kp hk
  have hzl := hb.len
  have hsl : (zs.drop at_).length = l - at_ := by rw [List.length_drop, hzl]
  have e0 : Int.tmod (at_ : Int) 128 = ((at_ % 128 : Nat) : Int) := by
    rw [Int.tmod_eq_emod_of_nonneg (by omega)]; omega
  have e1 : IntKind.i64.wrap (128 - ((at_ % 128 : Nat) : Int)) = ((128 - at_ % 128 : Nat) : Int) := by rw [i64_in _ (by omega)]; omega
  have e2 : IntKind.i64.wrap (((128 - at_ % 128 : Nat) : Int) - 7) = ((121 - at_ % 128 : Nat) : Int) := by rw [i64_in _ (by omega)]; omega
  rw [frame_next_eq, e0, e1, e2, i64_in ((l : Int) - at_) (by omega), i64_in ((l : Int) - at_ - 7) (by omega), i64_in ((at_ : Int) + 4) (by omega), i64_in ((at_ : Int) + 5) (by omega), i64_in ((at_ : Int) + 6) (by omega), i64_in ((at_ : Int) + 7) (by omega), i64_in ((at_ : Int) + 1) (by omega), i64_in ((at_ : Int) + 2) (by omega), i64_in ((at_ : Int) + 3) (by omega)]
  refine Rt.fin (Rt.al fun w1 l1 k1 _ => ?_)
  have k1d := k1.dr
  refine Rt.cD (fun h => ?_) fun h => ?_
  · have hnc : nextC at_ (zs.drop at_) = 1 := by rw [nextC, if_pos (by omega)]
    rw [hnc]
    exact Rt.out2 l1 k1 (Nat.le_refl _) fun w' kw _ => ⟨rfl, _, _, _, _, w', rfl, kw, fun h => absurd h (by decide)⟩
  obtain ⟨a, b, c', d', e, f, g, t, hs⟩ := seven (s := zs.drop at_) (by omega)
  have hby : ∀ z ∈ zs.drop at_, 0 ≤ z ∧ z < 256 := fun z hz => u8wf (hb.rng z (List.mem_of_mem_drop hz))
  have hcnt : cnt (zs.drop at_) = (le [e, f]).toNat := by rw [hs]; rfl
  have hkd : kindAt (zs.drop at_) = g := by rw [hs]; rfl
  have h4 : (zs.drop at_).take 4 = [a, b, c', d'] := by rw [hs]; rfl
  have hbd : body (zs.drop at_) = t.take (cnt (zs.drop at_)) := by rw [body]; congr 1; rw [hs]; rfl
  have gz : ∀ (j : Nat) (v : Int), (zs.drop at_).getD j 0 = v → zs.getD ((at_ : Int) + (j : Int)).toNat 0 = v := fun j v h => by
    rw [getD_drop] at h
    rw [show ((at_ : Int) + (j : Int)).toNat = at_ + j by omega]; exact h
  have g0 : zs.getD (at_ : Int).toNat 0 = a := gz 0 a (by rw [hs]; rfl)
  have g1 : zs.getD ((at_ : Int) + 1).toNat 0 = b := gz 1 b (by rw [hs]; rfl)
  have g2 : zs.getD ((at_ : Int) + 2).toNat 0 = c' := gz 2 c' (by rw [hs]; rfl)
  have g3 : zs.getD ((at_ : Int) + 3).toNat 0 = d' := gz 3 d' (by rw [hs]; rfl)
  have g4 : zs.getD ((at_ : Int) + 4).toNat 0 = e := gz 4 e (by rw [hs]; rfl)
  have g5 : zs.getD ((at_ : Int) + 5).toNat 0 = f := gz 5 f (by rw [hs]; rfl)
  have g6 : zs.getD ((at_ : Int) + 6).toNat 0 = g := gz 6 g (by rw [hs]; rfl)
  rw [hs] at hby
  have ra := hby a (by simp)
  have rb := hby b (by simp)
  have rc := hby c' (by simp)
  have rd := hby d' (by simp)
  have re := hby e (by simp)
  have rf := hby f (by simp)
  have rg := hby g (by simp)
  refine Rt.ixC hb.sl (by omega) (by omega) fun a4 c4 => ?_
  rw [g4] at c4
  refine Rt.ol (cell_kp c4 k1d) (Rt.tI (Rt.ixC hb.sl (by omega) (by omega) fun a5 c5 => ?_))
  rw [g5] at c5
  refine Rt.ol (cell_kp c5 k1d) (Rt.tI ?_)
  have hle : (le [e, f] : Int) = (cnt (zs.drop at_) : Int) := by rw [hcnt]; simp only [le]; omega
  have hcb : cnt (zs.drop at_) < 65536 := by rw [hcnt]; simp only [le]; omega
  rw [two_bytes re rf, hle]
  refine Rt.cD (fun h2 => ?_) fun h2 => ?_
  · have hnc : nextC at_ (zs.drop at_) = 2 := by rw [nextC, if_neg (by omega), if_pos (by omega)]
    rw [hnc]
    exact Rt.out2 (w := w1.drew) l1 k1d (Nat.le_refl _) fun w' kw _ => ⟨rfl, _, _, _, _, w', rfl, kw, fun h => absurd h (by decide)⟩
  refine Rt.cD (fun h3 => ?_) fun h3 => ?_
  · have hnc : nextC at_ (zs.drop at_) = 1 := by rw [nextC, if_neg (by omega), if_neg (by omega), if_pos (by omega)]
    rw [hnc]
    exact Rt.out2 (w := w1.drew) l1 k1d (Nat.le_refl _) fun w' kw _ => ⟨rfl, _, _, _, _, w', rfl, kw, fun h => absurd h (by decide)⟩
  have k2d := k1d.dr
  refine Rt.ixC hb.sl (by omega) (by omega) fun a6 c6 => ?_
  rw [g6] at c6
  refine Rt.ol (cell_kp c6 k2d) (Rt.tI ?_)
  have e7 : IntKind.i64.wrap ((at_ : Int) + 7 + (cnt (zs.drop at_) : Int)) = ((at_ + 7 + cnt (zs.drop at_) : Nat) : Int) := by rw [i64_in _ (by omega)]; omega
  rw [e7]
  refine Rt.cut hb0 (by omega) (by omega) (by omega) fun E bE => ?_
  have e8 : ((zs.take ((at_ + 7 + cnt (zs.drop at_) : Nat) : Int).toNat).drop ((at_ : Int) + 7).toNat) = body (zs.drop at_) := by
    rw [body, List.drop_drop, List.drop_take, Int.toNat_natCast, show ((at_ : Int) + 7).toNat = at_ + 7 by omega, show at_ + 7 + cnt (zs.drop at_) - (at_ + 7) = cnt (zs.drop at_) by omega]
  rw [e8] at bE
  refine Rt.al fun w2 l2 k2 s2 => ?_
  have k12 := k2d.tr k2
  have hkk : Kp w1 w2 := ((Kp.rfl' w1).dr.dr).tr k2
  refine Rt.ck (by rw [cell_kp c6 k12, opt_some, tI_mk]) ?_
  refine Rt.st0 l2 fun w3 l3 gx3 => Rt.st1 l3 fun w4 l4 gx4 => ?_
  have hg := gx3.tr gx4
  have k4 : Kp w w4 := k12.tx hg fun j hj => by subst hj; exact Nat.le_trans k1.size (Nat.le_refl _)
  have k14 : Kp w1 w4 := hkk.tx hg fun j hj => by subst hj; exact Nat.le_refl _
  have k4d := k4.dr
  have l4d : Lc w4.drew _ _ := l4.dr'
  have l14 : Lc w4.drew w.heap.size [.int .u8 0, .slice none 0 0] := l1.kp k14.dr
  refine Rt.ixC hb.sl (by omega) (by omega) fun a0 c0 => ?_
  rw [g0] at c0
  refine Rt.ol (cell_kp c0 k4d) (Rt.tI (Rt.ixC hb.sl (by omega) (by omega) fun a1 c1 => ?_))
  rw [g1] at c1
  refine Rt.ol (cell_kp c1 k4d) (Rt.tI (Rt.ixC hb.sl (by omega) (by omega) fun a2 c2 => ?_))
  rw [g2] at c2
  refine Rt.ol (cell_kp c2 k4d) (Rt.tI (Rt.ixC hb.sl (by omega) (by omega) fun a3 c3 => ?_))
  rw [g3] at c3
  refine Rt.ol (cell_kp c3 k4d) (Rt.tI ?_)
  rw [four_bytes ra rb rc rd]
  refine Rt.ld0 l4d (Rt.tI (Rt.cD (fun h5 => ?_) fun h5 => ?_))
  · have hnc : nextC at_ (zs.drop at_) = 2 := by rw [nextC, if_neg (by omega), if_neg (by omega), if_neg (by omega), hkd, if_neg (by omega)]
    rw [hnc]
    exact Rt.out2 (w := w4.drew) l14 k4d (Nat.le_refl _) fun w' kw _ => ⟨rfl, _, _, _, _, w', rfl, kw, fun h => absurd h (by decide)⟩
  refine Rt.ld0 l4d (Rt.tI (Rt.cD (fun h6 => ?_) fun h6 => ?_))
  · have hnc : nextC at_ (zs.drop at_) = 2 := by rw [nextC, if_neg (by omega), if_neg (by omega), if_neg (by omega), hkd, if_neg (by omega)]
    rw [hnc]
    exact Rt.out2 (w := w4.drew) l14 k4d (Nat.le_refl _) fun w' kw _ => ⟨rfl, _, _, _, _, w', rfl, kw, fun h => absurd h (by decide)⟩
  refine Rt.ld0 l4d (Rt.tI (Rt.ld1 l4d (Rt.tL ?_)))
  refine Rt.cI (summed_spec (w := w4.drew) hn (ht.kp k4d) (bE.kp (hk.tr k4d)) (by omega)) fun w5 k5 => ?_
  have k45 := k4d.tr k5
  have hnc : nextC at_ (zs.drop at_) = if le [a, b, c', d'] = sm (g :: body (zs.drop at_)) then 0 else 2 := by
    rw [nextC, if_neg (by omega), if_neg (by omega), if_neg (by omega), hkd, h4]
    by_cases h' : le [a, b, c', d'] = sm (g :: body (zs.drop at_))
    · rw [if_pos h', if_pos ⟨by omega, h'⟩]
    · rw [if_neg h', if_neg (fun h => h' h.2)]
  refine Rt.cN (fun h7 => ?_) fun h7 => ?_
  · rw [if_pos h7.symm] at hnc
    refine Rt.ld0 (l4d.kp k5) (Rt.tI (Rt.ld1 (l4d.kp k5) (Rt.tL ?_)))
    rw [hnc]
    exact Rt.out2 (w := w5) (l14.kp k5) k45 (Nat.le_refl _) fun w' kw _ => ⟨rfl, _, _, _, _, w', rfl, kw, fun _ => ⟨hkd.symm, bE⟩⟩
  · rw [if_neg (fun h => h7 h.symm)] at hnc
    rw [hnc]
    exact Rt.out2 (w := w5) (l14.kp k5) k45 (Nat.le_refl _) fun w' kw _ => ⟨rfl, _, _, _, _, w', rfl, kw, fun h => absurd h (by decide)⟩
end
end Go.Proofs.YtebcmkohnebgmaaDoor.Fr
