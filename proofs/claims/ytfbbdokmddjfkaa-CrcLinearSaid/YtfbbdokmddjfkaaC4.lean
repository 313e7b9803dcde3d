/- CrcLinear: what the law comes to. -/
import Derived.Test.YtfbbdokmddjfkaaC3
namespace Go.Proofs.Ytfbbdokmddjfkaa.Crc
open Go Big Go.RowKit Go.IntWalk
set_option linter.unusedVariables false
set_option linter.unusedSimpArgs false
def x3 (aa bs cs : List Int) (i : Nat) : Int := bits .xor .u8 (bits .xor .u8 (aa.getD i 0) (bs.getD i 0)) (cs.getD i 0)
theorem Linear_l0 {n : Nat} {w0 : World} {A B C D : Option Addr} {l ca cb cc d base : Nat} {aa bs cs : List Int} (hl : l < 2 ^ 40) (ha : Sl .u8 w0 A l aa) (hb : Sl .u8 w0 B l bs) (hc : Sl .u8 w0 C l cs) (hbase : w0.heap.size ≤ base) :
    ∀ (k j m : Nat) (ys : List Int) (w : World), j + k = l → k < m → Own .u8 5 w base (.slice D l d) ys → ys.length = l → (∀ i, i < j → ys.getD i 0 = x3 aa bs cs i) → Kp w0 w →
    ∃ w', butterylaw3_CrcLinear.l0 n m A l ca B l cb C l cc D l d (j : Int) w = some ⟨.exit 0, [.slice A l ca, .slice B l cb, .slice C l cc, .slice D l d], w'⟩ ∧
      Own .u8 5 w' base (.slice D l d) ((List.range l).map (x3 aa bs cs)) ∧ Kp w0 w' := by
  intro k
  induction k with
  | zero =>
    intro j m ys w hj hm ho hy hx hk
    obtain ⟨m, rfl⟩ : ∃ m', m = m' + 1 := ⟨m - 1, by omega⟩
    refine ⟨w, by rw [butterylaw3_CrcLinear.l0_succ, cF (by simp; omega)], ?_, hk⟩
    have : ys = (List.range l).map (x3 aa bs cs) := by
      apply List.ext_getElem (by simp [hy])
      intro i h1 h2
      have := hx i (by omega)
      rw [List.getD_eq_getElem?_getD, List.getElem?_eq_getElem h1] at this
      simpa using this
    rw [← this]; exact ho
  | succ k ih =>
    intro j m ys w hj hm ho hy hx hk
    obtain ⟨m, rfl⟩ : ∃ m', m = m' + 1 := ⟨m - 1, by omega⟩
    obtain ⟨a, w', rfl, hab, hw', ho', hg, hst⟩ := (Own.dr ho).store (i := (j : Int)) (by omega) (by omega) (x3 aa bs cs j)
    have hi : IntKind.i64.wrap ((j : Int) + 1) = ((j + 1 : Nat) : Int) := by rw [i64_in _ (by omega)]; omega
    have hk' : Kp w0 w' := hk.dr.gr hg (by intro b hb'; injection hb' with hb'; subst hb'; omega)
    obtain ⟨w2, h2, h3, h4⟩ := ih (j + 1) m (ys.set j (x3 aa bs cs j)) w' (by omega) (by omega) (by simpa using ho') (by simpa using hy) (fun i hi => by
      by_cases hij : i = j
      · subst hij; simp [List.getD_eq_getElem?_getD, hy, show i < l by omega]
      · have := hx i (by omega)
        rw [List.getD_eq_getElem?_getD] at this ⊢
        rw [List.getElem?_set_ne (by omega)]; exact this) hk'
    refine ⟨w2, ?_, h3, h4⟩
    rw [butterylaw3_CrcLinear.l0_succ, cT (by simp; omega), (ha.kp hk).ixd (by omega) (by omega), (hb.kp hk).ixd (by omega) (by omega), (hc.kp hk).ixd (by omega) (by omega), hi, ← h2]
    exact hst _
theorem sum_lin {aa bs cs : List Int} (ha : ∀ x ∈ aa, 0 ≤ x ∧ x ≤ 255) (hb : ∀ x ∈ bs, 0 ≤ x ∧ x ≤ 255) (hc : ∀ x ∈ cs, 0 ≤ x ∧ x ≤ 255) (h1 : bs.length = aa.length) (h2 : cs.length = aa.length) :
    bits .xor .u32 (bits .xor .u32 (sum aa) (sum bs)) (sum cs) = sum ((List.range aa.length).map (x3 aa bs cs)) := by
  obtain ⟨a, rfl⟩ := bytes_of ha
  obtain ⟨b, rfl⟩ := bytes_of hb
  obtain ⟨c, rfl⟩ := bytes_of hc
  rw [List.length_map, List.length_map] at h1 h2
  have e : (List.range (a.map J).length).map (x3 (a.map J) (b.map J) (c.map J)) = ((a.zip (b.zip c)).map fun p => p.1 ^^^ p.2.1 ^^^ p.2.2).map J := by
    apply List.ext_getElem
    · simp; omega
    · intro i h3 h4
      have hi : i < a.length := by simpa using h3
      have hib : i < b.length := by omega
      have hic : i < c.length := by omega
      simp only [List.getElem_map, List.getElem_range, List.getElem_zip, x3, List.getD_eq_getElem?_getD, List.getElem?_map, List.getElem?_eq_getElem hi, List.getElem?_eq_getElem hib, List.getElem?_eq_getElem hic, Option.map_some, Option.getD_some]
      rw [xor8, xor8]
  rw [e, sum_I, sum_I, sum_I, sum_I, xor32, xor32]
  have h := runB_xor3 a b c top top top h1 h2
  have ht : top ^^^ top ^^^ top = top := by decide
  rw [ht] at h
  rw [← h]
  congr 1
  have : top ^^^ runB top a ^^^ (top ^^^ runB top b) ^^^ (top ^^^ runB top c) = (top ^^^ top ^^^ top) ^^^ (runB top a ^^^ runB top b ^^^ runB top c) := by ac_rfl
  rw [this, ht]
theorem linear_ok {n : Nat} (hn : 2 ^ 50 < n) (A B C : Option Addr) (l ca lb cb lc cc : Nat) (aa bs cs : List Int) (w : World) (ha : Sl .u8 w A l aa) (hb : Sl .u8 w B lb bs) (hc : Sl .u8 w C lc cs)
    (wa : ∀ x ∈ aa, 0 ≤ x ∧ x ≤ 255) (wb : ∀ x ∈ bs, 0 ≤ x ∧ x ≤ 255) (wc : ∀ x ∈ cs, 0 ≤ x ∧ x ≤ 255) :
    ∃ w', butterylaw3_CrcLinear n [.slice A l ca, .slice B lb cb, .slice C lc cc] w = some ([.bool true], w') ∧ Kp w w' := by
  obtain ⟨w2, h1, k2⟩ := alive_ok hn w
  rw [butterylaw3_CrcLinear_eq, h1, cl1B, cF (x := !true) rfl]
  by_cases g1 : (l : Int) > 200
  · exact ⟨w2, by rw [cT (by simpa using g1), fin_ret], k2⟩
  rw [cF (by simpa using g1)]
  by_cases g2 : lb = l
  · subst g2
    rw [cF (by simp)]
    by_cases g3 : lc = lb
    · subst g3
      rw [cF (by simp)]
      obtain ⟨i8, hT⟩ := slT24
      obtain ⟨w3, e3, o3, k3⟩ := make_run hT w2 lc (by omega)
      rw [e3, tL_mk]
      obtain ⟨w4, e4, o4, k4⟩ := Linear_l0 (n := n) (w0 := w2) (ca := ca) (cb := cb) (cc := cc) (by omega) (ha.kp k2) (hb.kp k2) (hc.kp k2) (Nat.le_refl _) lc 0 n _ w3 (by omega) (by omega) o3 (by simp) (by intro i hi; omega) k3
      have e4' : butterylaw3_CrcLinear.l0 n n A lc ca B lc cb C lc cc (some ⟨w2.heap.size, 0, none⟩) lc lc 0 w3 = _ := e4
      rw [e4', jb_exit, tC_mk, tL_mk, tC_mk, tL_mk, tC_mk, tL_mk, tC_mk, tL_mk, tN_mk]
      obtain ⟨E, d, w5, e5, o5, k5⟩ := Table_spec (n := n) (by omega) w4
      have k6 := (k2.tr k4).tr k5
      have hE := o5.sl.2
      rw [e5, cl1L, Sum_spec (by omega) hn E d tab hE A lc ca aa (ha.kp k6) (by omega), cl1I, Sum_spec (by omega) hn E d tab hE B lc cb bs (hb.kp k6) (by omega), cl1I,
        Sum_spec (by omega) hn E d tab hE C lc cc cs (hc.kp k6) (by omega), cl1I, Sum_spec (by omega) hn E d tab hE _ lc lc _ (o4.kp k5).sl.2 (by omega), cl1I]
      refine ⟨w5, ?_, k6⟩
      have hlin := sum_lin wa wb wc (by rw [hb.1, ha.1]) (by rw [hc.1, ha.1])
      rw [ha.1] at hlin
      unfold sum at hlin
      rw [hlin, beq_self_eq_true, fin_ret]
    · exact ⟨w2, by rw [cT (by simp; omega), fin_ret], k2⟩
  · exact ⟨w2, by rw [cT (by simp; omega), fin_ret], k2⟩
end Go.Proofs.Ytfbbdokmddjfkaa.Crc
