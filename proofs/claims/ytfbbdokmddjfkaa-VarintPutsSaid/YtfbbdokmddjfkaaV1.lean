/- VarintGets: what the law comes to. -/
import Derived.Test.YtfbbdokmddjfkaaV0
namespace Go.Proofs.Ytfbbdokmddjfkaa.Var
open Go Big Go.RowKit Go.IntWalk
set_option linter.unusedVariables false
set_option linter.unusedSimpArgs false
theorem clG {α : Type} {r : Int × Int × Int} {w : World} {f : Int → Int → Int → World → Option α} :
    (cl (some (gr r, w)) fun vs w => tC vs fun v cs => tI .u64 v fun a => tC cs fun v cs => tI .i64 v fun b => tC cs fun v cs => tI .i64 v fun c => tN cs (f a b c w)) = f r.1 r.2.1 r.2.2 w := by
  rw [cl_some, gr, tC_mk, tI_mk, tC_mk, tI_mk, tC_mk, tI_mk, tN_mk]
def gi (r : Int × Int × Int) : List Value := [.int .i64 r.1, .int .i64 r.2.1, .int .i64 r.2.2]
theorem clI {α : Type} {r : Int × Int × Int} {w : World} {f : Int → Int → Int → World → Option α} :
    (cl (some (gi r, w)) fun vs w => tC vs fun v cs => tI .i64 v fun a => tC cs fun v cs => tI .i64 v fun b => tC cs fun v cs => tI .i64 v fun c => tN cs (f a b c w)) = f r.1 r.2.1 r.2.2 w := by
  rw [cl_some, gi, tC_mk, tI_mk, tC_mk, tI_mk, tC_mk, tI_mk, tN_mk]
theorem num_spec {n : Nat} (x : Int) (w : World) : butterylaw2_num n [.int .i64 x] w = some ([.int .i64 x], w) := by rw [butterylaw2_num_eq, fin_ret]
theorem enc300 : enc 300 = [172, 2] := by rw [enc_big (by omega), enc_small (by omega)]; rfl
theorem alive_ok {n : Nat} (hn : 2 ^ 59 < n) (w : World) : ∃ w', butterylaw2_alive n [] w = some ([.bool true], w') ∧ Kp w w' := by
  obtain ⟨A, c, w1, h1, h2, h3⟩ := Put_spec (n := n) (by omega) (Sl.nil .u8 w none) (fun _ => ⟨rfl, rfl⟩) (by omega) 300 (by omega)
  rw [enc300] at h1 h2
  have h1 : varint_Put n [.slice none 0 0, .int .u64 300] w = some ([.slice A 2 c], w1) := h1
  have hs : Sl .u8 w1 A 2 [172, 2] := h2.sl.2
  have hc : 2 ≤ c := by
    rcases h2.2 with ⟨h', hn'⟩ | ⟨g, cap, cur, h', _, _, hle, _⟩
    · cases h'
    · injection h' with _ _ h'; subst h'; exact hle
  have h4 := Get_spec (n := n) hn hs (by simp) (by omega) hc 0
  have e4 : getR [172, 2] 0 = (300, 2, 0) := by decide +kernel
  refine ⟨w1, ?_, h3⟩
  have i0 := fun {α : Type} (f : Int → Option α) => hs.ix (i := 0) (by omega) (by omega) f
  have i1 := fun {α : Type} (f : Int → Option α) => hs.ix (i := 1) (by omega) (by omega) f
  rw [butterylaw2_alive_eq, h1, cl1L, h4, clG, e4, cT (by decide), i0, cT (by decide), i1, cT (by decide), cT (by decide), cT (by decide), num_spec, cl1I, fin_ret]; rfl
theorem Ref_l0 {n : Nat} {w : World} {A : Option Addr} {l c : Nat} {xs : List Int} (hs : Sl .u8 w A l xs) (hb : ∀ x ∈ xs, 0 ≤ x ∧ x ≤ 255) (hl : l < 2 ^ 60) (at' : Nat) (h1 : at' ≤ l) :
    ∀ (k i m : Nat) (acc : Int), at' + i + k = l → k < m → i ≤ 9 → butteryref1_GetVar.l0 n m A l c (at' : Int) acc (i : Int) w = some ⟨.ret, gr (gv at' i acc (xs.drop (at' + i))), w⟩ := by
  intro k
  induction k with
  | zero =>
    intro i m acc hi hm h9
    obtain ⟨m, rfl⟩ : ∃ m', m = m' + 1 := ⟨m - 1, by omega⟩
    have ew : IntKind.i64.wrap ((at' : Int) + (i : Int)) = ((at' + i : Nat) : Int) := by rw [i64_in _ (by omega)]; omega
    rw [butteryref1_GetVar.l0_succ, ew, cT (by simp; omega), List.drop_of_length_le (by rw [hs.1]; omega)]
    rfl
  | succ k ih =>
    intro i m acc hi hm h9
    obtain ⟨m, rfl⟩ : ∃ m', m = m' + 1 := ⟨m - 1, by omega⟩
    have ew : IntKind.i64.wrap ((at' : Int) + (i : Int)) = ((at' + i : Nat) : Int) := by rw [i64_in _ (by omega)]; omega
    have hlen : at' + i < xs.length := by rw [hs.1]; omega
    have e1 : xs.getD ((at' + i : Nat) : Int).toNat 0 = xs[at' + i] := by rw [Int.toNat_natCast, List.getD_eq_getElem?_getD, List.getElem?_eq_getElem hlen]; rfl
    have hc := hb xs[at' + i] (List.getElem_mem _)
    rw [butteryref1_GetVar.l0_succ, ew, cF (by simp; omega), hs.ix (by omega) (by omega), e1, tree, List.drop_eq_getElem_cons hlen, gv]
    generalize hz : xs[at' + i] = z at hc ⊢
    by_cases hbad : ((i : Int) = 9 ∧ z > 1) ∨ (0 < (i : Int) ∧ z = 0)
    · rw [if_pos hbad, if_pos hbad, jm_ret]; rfl
    · rw [if_neg hbad, if_neg hbad, jm_norm, tC_mk, tL_mk, tC_mk, tI_mk, tC_mk, tI_mk, tC_mk, tI_mk, tC_mk, tI_mk, tN_mk]
      have e7 : IntKind.u64.wrap (IntKind.i64.wrap (7 * (i : Int))) = ((7 * i : Nat) : Int) := by rw [i64_in _ (by omega), u64_in _ (by omega)]; omega
      have em : min ((7 * i : Nat) : Int).toNat 64 = 7 * i := by omega
      rw [e7, if_neg (by omega), em]
      by_cases h128 : z < 128
      · have e8 : IntKind.i64.wrap (((at' + i : Nat) : Int) + 1) = (at' : Int) + i + 1 := by rw [i64_in _ (by omega)]; omega
        rw [cT (by simpa using h128), if_pos h128, ew, e8]; rfl
      · have e9 : IntKind.i64.wrap ((i : Int) + 1) = ((i + 1 : Nat) : Int) := by rw [i64_in _ (by omega)]; omega
        rw [cF (by simpa using h128), if_neg h128, e9]
        exact ih (i + 1) m _ (by omega) (by omega) (by omega)
theorem Ref_spec {n : Nat} (hn : 2 ^ 59 < n) {w : World} {A : Option Addr} {l c : Nat} {bs : List Int} (hs : Sl .u8 w A l bs) (hb : ∀ x ∈ bs, 0 ≤ x ∧ x ≤ 255) (hl : l < 2 ^ 58) (at' : Int) :
    butteryref1_GetVar n [.slice A l c, .int .i64 at'] w = some (gr (getR bs at'), w) := by
  have hlen := hs.1
  rw [butteryref1_GetVar_eq]
  unfold getR
  by_cases g1 : at' < 0
  · rw [cT (by simpa using g1), if_pos g1, fin_ret]; rfl
  rw [cF (by simpa using g1), if_neg g1]
  by_cases g2 : at' > (l : Int)
  · rw [cT (by simpa using g2), if_pos (by omega), fin_ret]; rfl
  rw [cF (by simpa using g2), if_neg (by omega)]
  obtain ⟨a, rfl⟩ : ∃ a : Nat, at' = a := ⟨at'.toNat, by omega⟩
  have h := Ref_l0 (n := n) (c := c) hs hb (by omega) a (by omega) (l - a) 0 n 0 (by omega) (by omega) (by omega)
  have h : butteryref1_GetVar.l0 n n A l c (a : Int) 0 0 w = _ := h
  rw [h, fin_ret]; rfl
/-- No number: nothing, at nothing. -/
theorem gv_bad (at' : Int) : ∀ (cs : List Int) (i : Nat) (acc : Int), (gv at' i acc cs).2.2 ≠ 0 → (gv at' i acc cs).1 = 0 ∧ (gv at' i acc cs).2.1 = 0
  | [], i, acc, _ => ⟨rfl, rfl⟩
  | c :: cs, i, acc, h => by
    rw [gv] at h ⊢
    split
    · exact ⟨rfl, rfl⟩
    · rename_i h1
      rw [if_neg h1] at h
      split
      · rename_i h2; rw [if_pos h2] at h; exact absurd rfl h
      · rename_i h2; rw [if_neg h2] at h; exact gv_bad at' cs _ _ h
theorem getR_bad {bs : List Int} {at' : Int} (h : (getR bs at').2.2 ≠ 0) : (getR bs at').1 = 0 ∧ (getR bs at').2.1 = 0 := by
  unfold getR at h ⊢
  split
  · exact ⟨rfl, rfl⟩
  · rename_i h1
    rw [if_neg h1] at h
    split
    · exact ⟨rfl, rfl⟩
    · rename_i h2; rw [if_neg h2] at h; exact gv_bad _ _ _ _ h
def half (x : Int) : Int := cond ((bits .and .u64 x 1) == 1) (IntKind.i64.wrap ((IntKind.i64.wrap (0 - (IntKind.i64.wrap (Int.fdiv x (2 ^ 1))))) - 1)) (IntKind.i64.wrap (Int.fdiv x (2 ^ 1)))
def getI (bs : List Int) (at' : Int) : Int × Int × Int := (half (getR bs at').1, (getR bs at').2.1, (getR bs at').2.2)
theorem half_zero : half 0 = 0 := by decide +kernel
theorem GetInt_spec {n : Nat} (hn : 2 ^ 59 < n) {w : World} {A : Option Addr} {l c : Nat} {bs : List Int} (hs : Sl .u8 w A l bs) (hb : ∀ x ∈ bs, 0 ≤ x ∧ x ≤ 255) (hl : l < 2 ^ 58) (hc : l ≤ c) (at' : Int) :
    varint_GetInt n [.slice A l c, .int .i64 at'] w = some (gi (getI bs at'), w) := by
  rw [varint_GetInt_eq, Get_spec hn hs hb hl hc, clG]
  unfold getI half
  cases hb : (bits .and .u64 (getR bs at').1 1 == 1)
  · rw [cF (x := false) rfl, cF (x := false) rfl, fin_ret]; rfl
  · rw [cT (x := true) rfl, cT (x := true) rfl, fin_ret]; rfl
theorem RefInt_spec {n : Nat} (hn : 2 ^ 59 < n) {w : World} {A : Option Addr} {l c : Nat} {bs : List Int} (hs : Sl .u8 w A l bs) (hb : ∀ x ∈ bs, 0 ≤ x ∧ x ≤ 255) (hl : l < 2 ^ 58) (at' : Int) :
    butteryref1_GetInt n [.slice A l c, .int .i64 at'] w = some (gi (getI bs at'), w) := by
  rw [butteryref1_GetInt_eq, Ref_spec hn hs hb hl, clG]
  by_cases h0 : (getR bs at').2.2 = 0
  · unfold getI half
    rw [cF (by simpa using h0)]
    cases hb : (bits .and .u64 (getR bs at').1 1 == 1)
    · rw [cF (x := false) rfl, cF (x := false) rfl, fin_ret, h0]; rfl
    · rw [cT (x := true) rfl, cT (x := true) rfl, fin_ret, h0]; rfl
  · have h1 := getR_bad h0
    rw [cT (by simpa using h0), fin_ret]
    unfold getI
    rw [h1.1, h1.2, half_zero]; rfl
theorem gets_ok {n : Nat} (hn : 2 ^ 59 < n) (A : Option Addr) (l c : Nat) (xs : List Int) (at' : Int) (w : World) (hs : Sl .u8 w A l xs) (hA : A = none → l = 0 ∧ c = 0) (hb : ∀ x ∈ xs, 0 ≤ x ∧ x ≤ 255) (hlc : l ≤ c) :
    ∃ w', butterylaw2_VarintGets n [.slice A l c, .int .i64 at'] w = some ([.bool true], w') ∧ Kp w w' := by
  obtain ⟨w2, h1, k2⟩ := alive_ok hn w
  rw [butterylaw2_VarintGets_eq, h1, cl1B, cF (x := !true) rfl]
  by_cases g1 : (l : Int) > 200
  · exact ⟨w2, by rw [cT (by simpa using g1), fin_ret], k2⟩
  rw [cF (by simpa using g1)]
  obtain ⟨i8, hT⟩ := Crc.slT24
  obtain ⟨v, w3, e3, o3, gr3, hb3⟩ := append_run (P := Try.prog) hT w2 w2.heap.size 24 (Own.nil w2 _) (hs.kp k2) hA (by simp; omega) (Nat.le_refl _)
  rw [e3]
  rw [List.nil_append] at o3
  obtain ⟨A', c', rfl⟩ := o3.slice
  have hl : xs.length = l := hs.1
  rw [hl] at o3 ⊢
  have hc' : l ≤ c' := by
    rcases o3.2 with ⟨h', hn'⟩ | ⟨g, cap, cur, h', _, _, hle, _⟩
    · injection h' with _ h' _; omega
    · injection h' with _ _ h'; subst h'; omega
  have k3 : Kp w w3 := k2.gr gr3 (by simp [Value.ownBlock])
  have hs3 := hs.kp k3
  rw [tL_mk, Get_spec hn o3.sl.2 hb (by omega) hc', clG, Ref_spec hn hs3 hb (by omega), clG, GetInt_spec hn hs3 hb (by omega) hlc, clI, RefInt_spec hn hs3 hb (by omega), clI, cE rfl, cE rfl, num_spec, cl1I, cE rfl, cE rfl, cE rfl, num_spec, cl1I, beq_self_eq_true, fin_ret]
  exact ⟨w3, rfl, k3⟩
end Go.Proofs.Ytfbbdokmddjfkaa.Var
