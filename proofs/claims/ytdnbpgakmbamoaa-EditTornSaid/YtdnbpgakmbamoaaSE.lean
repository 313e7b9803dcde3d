/- Two rows of numbers: are they one? -/
import Derived.Test.YtdnbpgakmbamoaaM8
import Derived.Test.YtdnbpgakmbamoaaGE2
namespace Go.Proofs.Ytdnbpgakmbamoaa.Si
open Go Big Go.RowKit Go.IntWalk
set_option linter.unusedVariables false
set_option linter.unusedSimpArgs false
section
variable {n : Nat} {w : World} {A B : Option Addr} {l c m d : Nat} {xs ys : List Int}
theorem getD_some {xs : List Int} {i : Nat} (h : i < xs.length) : xs[i]? = some (xs.getD i 0) := by
  rw [List.getD_eq_getElem?_getD, List.getElem?_eq_getElem h]; rfl
theorem SameInts_l0 (hx : Sl .i64 w A l xs) (hy : Sl .i64 w B l ys) (hl : l < 2 ^ 62) : ∀ (q i j : Nat) (w' : World), i + q = l → q < j → Kp w w' → (xs.take i = ys.take i) →
    Rt (butteryref16_SameInts.l0 n j A l c B l d (i : Int) w') fun r => Kp w r.w ∧ (r.ex = .exit 0 ∧ r.vals = [] ∧ xs = ys ∨ r.ex = .ret ∧ r.vals = [.bool false] ∧ xs ≠ ys) := by
  intro q
  have hxl := hx.len
  have hyl := hy.len
  induction q with
  | zero =>
    intro i j w' hi hj hk hr
    obtain ⟨j, rfl⟩ : ∃ j', j = j' + 1 := ⟨j - 1, by omega⟩
    rw [butteryref16_SameInts.l0_succ]
    exact Rt.cDF (by omega) (Rt.some' ⟨hk, .inl ⟨rfl, rfl, by rwa [List.take_of_length_le (by omega), List.take_of_length_le (by omega)] at hr⟩⟩)
  | succ q ih =>
    intro i j w' hi hj hk hr
    obtain ⟨j, rfl⟩ : ∃ j', j = j' + 1 := ⟨j - 1, by omega⟩
    rw [butteryref16_SameInts.l0_succ]
    have hkd := hk.dr
    have ex := getD_some (xs := xs) (i := i) (by omega)
    have ey := getD_some (xs := ys) (i := i) (by omega)
    refine Rt.cDT (by omega) (Rt.ix (hx.kp hkd) (by omega) (by omega) (Rt.ix (hy.kp hkd) (by omega) (by omega) ?_))
    rw [Int.toNat_natCast]
    refine Rt.cN (fun h => ?_) fun h => Rt.some' ⟨hkd, .inr ⟨rfl, rfl, fun h' => h (by rw [h'])⟩⟩
    rw [i64_in _ (by omega), show ((i : Int) + 1) = ((i + 1 : Nat) : Int) by omega]
    refine ih (i + 1) j _ (by omega) (by omega) hkd ?_
    rw [List.take_add_one, List.take_add_one, hr, ex, ey, h]
theorem SameInts_spec (hx : Sl .i64 w A l xs) (hy : Sl .i64 w B m ys) (hl : l < 2 ^ 62) (hn : l < n) : Rt (butteryref16_SameInts n [.slice A l c, .slice B m d] w) (RB (xs = ys) w) := by
  have hxl := hx.len
  have hyl := hy.len
  rw [butteryref16_SameInts_eq]
  refine Rt.fin (Rt.cN (fun h => ?_) fun h => Rt.endB (by simp; intro h'; subst h'; omega) (Kp.rfl' w))
  obtain rfl : l = m := by omega
  refine Rt.jb (Rt.mono (SameInts_l0 (n := n) hx hy hl l 0 n w (by omega) (by omega) (Kp.rfl' w) (by simp)) ?_)
  rintro ⟨ex, vs, w1⟩ ⟨k1, ⟨h3, h4, h5⟩ | ⟨h3, h4, h5⟩⟩
  · dsimp only at h3 h4 k1
    subst h3 h4
    refine .inl ⟨.inr rfl, ?_⟩
    (repeat (first | (with_reducible (first | refine Rt.fin ?_ | refine Rt.tL ?_ | refine Rt.tI ?_ | refine Rt.tB ?_ | refine Rt.tS ?_ | refine Rt.tP ?_ | refine Rt.tD ?_ | refine Rt.tM ?_ | refine Rt.tC ?_ | refine Rt.tN ?_ | refine Rt.tA ?_ | refine Rt.tG ?_ | refine Rt.tF ?_ | refine Rt.os ?_ | refine Rt.clS ?_ | refine Rt.jmN ?_ | refine Rt.jbN ?_ | refine Rt.jbE ?_)) | ((with_reducible (first | apply Rt.ld0 | apply Rt.ld1 | apply Rt.ld2 | apply Rt.ld3 | apply Rt.ld4 | apply Rt.ld5)); first | assumption | exact Lc.kp (by assumption) (by assumption)) | ((with_reducible apply Rt.ol); first | assumption | exact cell_kp (by assumption) (by assumption)) | ((with_reducible apply Rt.ckR); focus ((repeat (first | (with_reducible (first | refine Rt.fin ?_ | refine Rt.tL ?_ | refine Rt.tI ?_ | refine Rt.tB ?_ | refine Rt.tS ?_ | refine Rt.tP ?_ | refine Rt.tD ?_ | refine Rt.tM ?_ | refine Rt.tC ?_ | refine Rt.tN ?_ | refine Rt.tA ?_ | refine Rt.tG ?_ | refine Rt.tF ?_ | refine Rt.os ?_ | refine Rt.clS ?_ | refine Rt.jmN ?_ | refine Rt.jbN ?_ | refine Rt.jbE ?_)) | ((with_reducible (first | apply Rt.ld0 | apply Rt.ld1 | apply Rt.ld2 | apply Rt.ld3 | apply Rt.ld4 | apply Rt.ld5)); first | assumption | exact Lc.kp (by assumption) (by assumption)) | ((with_reducible apply Rt.ol); first | assumption | exact cell_kp (by assumption) (by assumption)))); exact Rt.some' rfl))))
    exact Rt.endB (by simp [h5]) k1
  · dsimp only at h3 h4 k1
    subst h3 h4
    exact .inr ⟨rfl, rfl, false, w1, rfl, ⟨fun h => by simp at h, fun h => absurd h h5⟩, k1⟩
end
end Go.Proofs.Ytdnbpgakmbamoaa.Si
