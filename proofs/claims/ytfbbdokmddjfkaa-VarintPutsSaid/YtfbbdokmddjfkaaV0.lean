/- What the functions of package varint compute. -/
import Derived.Test.YtfbbdokmddjfkaaC0
import Derived.OpenShut
namespace Go.Proofs.Ytfbbdokmddjfkaa.Var
open Go Big Go.RowKit Go.IntWalk
set_option linter.unusedVariables false
set_option linter.unusedSimpArgs false
def enc (x : Nat) : List Int := if h : x < 128 then [(x : Int)] else ((x % 128 + 128 : Nat) : Int) :: enc (x / 128)
theorem enc_small {x : Nat} (h : x < 128) : enc x = [(x : Int)] := by rw [enc, dif_pos h]
theorem enc_big {x : Nat} (h : ¬ x < 128) : enc x = ((x % 128 + 128 : Nat) : Int) :: enc (x / 128) := by rw [enc, dif_neg h]
theorem or128 : ∀ y : Fin 256, bits .or .u8 ((y.val : Nat) : Int) 128 = ((y.val % 128 + 128 : Nat) : Int) := by decide +kernel
theorem byte_more (x : Nat) : bits .or .u8 (IntKind.u8.wrap (x : Int)) 128 = ((x % 128 + 128 : Nat) : Int) := by
  have e : IntKind.u8.wrap (x : Int) = ((x % 256 : Nat) : Int) := by rw [IntKind.wrap_u8]; omega
  have h := or128 ⟨x % 256, Nat.mod_lt _ (by decide)⟩
  simp only at h
  rw [e, h]
  congr 2; omega
theorem enc_len : ∀ (k x : Nat), x < 2 ^ (7 * k + 7) → (enc x).length ≤ k + 1
  | 0, x, h => by rw [enc_small (by simpa using h)]; simp
  | k + 1, x, h => by
    by_cases hx : x < 128
    · rw [enc_small hx]; simp
    · rw [enc_big hx, List.length_cons]
      have : x / 128 < 2 ^ (7 * k + 7) := by
        have e : 2 ^ (7 * (k + 1) + 7) = 2 ^ (7 * k + 7) * 128 := by rw [show 7 * (k + 1) + 7 = 7 * k + 7 + 7 by omega, Nat.pow_add]
        rw [e] at h
        omega
      have := enc_len k _ this
      omega
theorem Put_l0 {n : Nat} {w0 : World} : ∀ (k m x : Nat) (A : Option Addr) (c : Nat) (xs : List Int) (w : World), x < 2 ^ (7 * k + 7) → k < m → xs.length + k ≤ 2 ^ 39 →
    Own .u8 5 w w0.heap.size (.slice A xs.length c) xs → Kp w0 w →
    ∃ A' c' ys w' y, varint_Put.l0 n m (x : Int) A xs.length c w = some ⟨.exit 0, [.int .u64 ((y : Nat) : Int), .slice A' ys.length c'], w'⟩ ∧ Own .u8 5 w' w0.heap.size (.slice A' ys.length c') ys ∧ Kp w0 w' ∧ y < 128 ∧ xs ++ enc x = ys ++ [(y : Int)] ∧ ys.length ≤ xs.length + k := by
  intro k
  induction k with
  | zero =>
    intro m x A c xs w hx hm hl ho hk
    obtain ⟨m, rfl⟩ : ∃ m', m = m' + 1 := ⟨m - 1, by omega⟩
    have hx : x < 128 := by simpa using hx
    exact ⟨A, c, xs, w, x, by rw [varint_Put.l0_succ, cF (by simp; omega)], ho, hk, hx, by rw [enc_small hx], by omega⟩
  | succ k ih =>
    intro m x A c xs w hx hm hl ho hk
    obtain ⟨m, rfl⟩ : ∃ m', m = m' + 1 := ⟨m - 1, by omega⟩
    by_cases h128 : x < 128
    · exact ⟨A, c, xs, w, x, by rw [varint_Put.l0_succ, cF (by simp; omega)], ho, hk, h128, by rw [enc_small h128], by omega⟩
    · obtain ⟨i8, hT⟩ := Crc.slT24
      have hlit : Own .u8 5 (w.alloc (.cells ([((x % 128 + 128 : Nat) : Int)].map (Value.int .u8)).toArray 5)) w.heap.size (.slice (some ⟨w.heap.size, 0, none⟩) 1 1) [((x % 128 + 128 : Nat) : Int)] := Own.lit w [((x % 128 + 128 : Nat) : Int)] (by simp [maxLen])
      have k1 : Kp w (w.alloc (.cells ([((x % 128 + 128 : Nat) : Int)].map (Value.int .u8)).toArray 5)) := (Kp.rfl' w).al _
      obtain ⟨v, w2, e2, o2, g2, b2⟩ := append_run (P := Try.prog) hT _ w0.heap.size 24 (ho.kp k1) hlit.sl.2 (fun h => by cases h) (by omega) (Nat.le_trans hk.size k1.size)
      obtain ⟨A', c', rfl⟩ := o2.slice
      have hx' : x / 128 < 2 ^ (7 * k + 7) := by
        have e : 2 ^ (7 * (k + 1) + 7) = 2 ^ (7 * k + 7) * 128 := by rw [show 7 * (k + 1) + 7 = 7 * k + 7 + 7 by omega, Nat.pow_add]
        rw [e] at hx
        omega
      obtain ⟨A2, c2, ys, w3, y, e3, o3, k3, hy, happ, hlen⟩ := ih m (x / 128) A' c' (xs ++ [((x % 128 + 128 : Nat) : Int)]) w2 hx' (by omega) (by simp; omega) o2 ((hk.tr k1).gr g2 (fun b hb => (ho.lt b hb).1))
      refine ⟨A2, c2, ys, w3, y, ?_, o3, k3, hy, ?_, by simp at hlen; omega⟩
      · have ef : Int.fdiv (x : Int) (2 ^ 7) = ((x / 128 : Nat) : Int) := by rw [Int.fdiv_eq_ediv_of_nonneg _ (by decide)]; rfl
        have e2' := fun (f : Value → World → Option Res) => e2 f
        have ee : ∀ z : Int, (w.alloc (.cells #[(.int .u8 z)] 5)) = w.alloc (.cells ([z].map (Value.int .u8)).toArray 5) := fun z => rfl
        rw [varint_Put.l0_succ, cT (by simp; omega), byte_more, ee, e2', tL_mk, ef, e3]
      · rw [enc_big h128, ← happ]; simp
theorem Put_spec {n : Nat} (hn : 100 < n) {w : World} {B : Option Addr} {l d : Nat} {bs : List Int} (hb : Sl .u8 w B l bs) (hB : B = none → l = 0 ∧ d = 0) (hl : l ≤ 2 ^ 38) (x : Nat) (hx : x < 2 ^ 64) :
    ∃ A c w', varint_Put n [.slice B l d, .int .u64 (x : Int)] w = some ([.slice A (bs ++ enc x).length c], w') ∧ Own .u8 5 w' w.heap.size (.slice A (bs ++ enc x).length c) (bs ++ enc x) ∧ Kp w w' := by
  obtain ⟨i8, hT⟩ := Crc.slT24
  have hbl := hb.1
  obtain ⟨v, w2, e2, o2, g2, b2⟩ := append_run (P := Try.prog) hT w w.heap.size 24 (Own.nil w _) hb hB (by simp; omega) (Nat.le_refl _)
  rw [List.nil_append] at o2
  obtain ⟨A', c', rfl⟩ := o2.slice
  obtain ⟨A2, c2, ys, w3, y, e3, o3, k3, hy, happ, hlen⟩ := Put_l0 (n := n) (w0 := w) 9 n x A' c' bs w2 (by omega) (by omega) (by omega) o2 ((Kp.rfl' w).gr g2 (by simp [Value.ownBlock]))
  have hlit : Own .u8 5 (w3.alloc (.cells ([(y : Int)].map (Value.int .u8)).toArray 5)) w3.heap.size (.slice (some ⟨w3.heap.size, 0, none⟩) 1 1) [(y : Int)] := Own.lit w3 [(y : Int)] (by simp [maxLen])
  have k4 : Kp w3 (w3.alloc (.cells ([(y : Int)].map (Value.int .u8)).toArray 5)) := (Kp.rfl' w3).al _
  obtain ⟨v, w5, e5, o5, g5, b5⟩ := append_run (P := Try.prog) hT _ w.heap.size 24 (o3.kp k4) hlit.sl.2 (fun h => by cases h) (by omega) (Nat.le_trans k3.size k4.size)
  rw [← happ] at o5
  obtain ⟨A3, c3, rfl⟩ := o5.slice
  refine ⟨A3, c3, w5, ?_, o5, (k3.tr k4).gr g5 (fun b hb => (o3.lt b hb).1)⟩
  have e2' := fun (f : Value → World → Option Res) => e2 f
  have e5' := fun (f : Value → World → Option Res) => e5 f
  have ee : ∀ z : Int, (w3.alloc (.cells #[(.int .u8 z)] 5)) = w3.alloc (.cells ([z].map (Value.int .u8)).toArray 5) := fun z => rfl
  have hu : IntKind.u8.wrap (y : Int) = y := u8_in _ (by omega)
  rw [varint_Put_eq, e2', tL_mk, e3, jb_exit, tC_mk, tI_mk, tC_mk, tL_mk, tN_mk, hu, ee, e5', tL_mk, fin_ret]

/-! ### Reading -/
def gv (at' : Int) : Nat → Int → List Int → Int × Int × Int
  | _, _, [] => (0, 0, 4)
  | i, acc, c :: cs =>
    if ((i : Int) = 9 ∧ c > 1) ∨ (0 < (i : Int) ∧ c = 0) then (0, 0, 2)
    else if c < 128 then (bits .or .u64 acc (IntKind.u64.wrap ((IntKind.u64.wrap (bits .and .u8 c 127)) * 2 ^ (7 * i))), at' + i + 1, 0)
    else gv at' (i + 1) (bits .or .u64 acc (IntKind.u64.wrap ((IntKind.u64.wrap (bits .and .u8 c 127)) * 2 ^ (7 * i)))) cs
def gr (r : Int × Int × Int) : List Value := [.int .u64 r.1, .int .i64 r.2.1, .int .i64 r.2.2]
theorem tree {α : Type} (i c : Int) (R N : α) : cond (i == 9) (cond (decide (c > 1)) R (cond (decide (i > 0)) (cond (c == 0) R N) N)) (cond (decide (i > 0)) (cond (c == 0) R N) N) = if (i = 9 ∧ c > 1) ∨ (0 < i ∧ c = 0) then R else N := by
  have b0 : ∀ x : Int, (x == 0) = decide (x = 0) := fun x => by by_cases h : x = 0 <;> simp [h]
  have b9 : ∀ x : Int, (x == 9) = decide (x = 9) := fun x => by by_cases h : x = 9 <;> simp [h]
  rw [b0, b9]
  by_cases h1 : i = 9 <;> by_cases h2 : c > 1 <;> by_cases h3 : i > 0 <;> by_cases h4 : c = 0 <;> simp [h1, h2, h3, h4] <;> omega
theorem Get_l0 {n : Nat} {w : World} {A : Option Addr} {l c : Nat} {xs : List Int} (hs : Sl .u8 w A l xs) (hb : ∀ x ∈ xs, 0 ≤ x ∧ x ≤ 255) (hl : l < 2 ^ 60) (at' : Int) (h0 : 0 ≤ at') (h1 : at' < 2 ^ 60) :
    ∀ (k i m : Nat) (acc : Int), i + k = l → k < m → i ≤ 9 →
    (jb 0 (varint_Get.l0 n m at' acc A l c (l : Int) (i : Int) w) fun vs w => tN vs (some ⟨.ret, [.int .u64 0, .int .i64 0, .int .i64 4], w⟩)) = some ⟨.ret, gr (gv at' i acc (xs.drop i)), w⟩ := by
  intro k
  induction k with
  | zero =>
    intro i m acc hi hm h9
    obtain ⟨m, rfl⟩ : ∃ m', m = m' + 1 := ⟨m - 1, by omega⟩
    rw [varint_Get.l0_succ, cF (by simp; omega), jb_exit, tN_mk, List.drop_of_length_le (by rw [hs.1]; omega)]
    rfl
  | succ k ih =>
    intro i m acc hi hm h9
    obtain ⟨m, rfl⟩ : ∃ m', m = m' + 1 := ⟨m - 1, by omega⟩
    have hlen : i < xs.length := by rw [hs.1]; omega
    have e1 : xs.getD (i : Int).toNat 0 = xs[i] := by simp [List.getD_eq_getElem?_getD, hlen]
    have hc := hb xs[i] (List.getElem_mem _)
    rw [varint_Get.l0_succ, cT (by simp; omega), hs.ix (by omega) (by omega), e1, tree, List.drop_eq_getElem_cons hlen, gv]
    generalize hz : xs[i] = z at hc ⊢
    by_cases hbad : ((i : Int) = 9 ∧ z > 1) ∨ (0 < (i : Int) ∧ z = 0)
    · rw [if_pos hbad, if_pos hbad, jm_ret, jb_ret]; rfl
    · rw [if_neg hbad, if_neg hbad, jm_norm, tC_mk, tI_mk, tC_mk, tI_mk, tC_mk, tI_mk, tC_mk, tI_mk, tC_mk, tL_mk, tC_mk, tI_mk, tC_mk, tI_mk, tN_mk]
      have e7 : IntKind.i64.wrap (7 * (i : Int)) = ((7 * i : Nat) : Int) := by rw [i64_in _ (by omega)]; omega
      have em : min ((7 * i : Nat) : Int).toNat 64 = 7 * i := by omega
      rw [e7, if_neg (by omega), em]
      by_cases h128 : z < 128
      · have e8 : IntKind.i64.wrap (IntKind.i64.wrap (at' + (i : Int)) + 1) = at' + i + 1 := by rw [i64_in (at' + i) (by omega), i64_in _ (by omega)]
        rw [cT (by simpa using h128), if_pos h128, jb_ret, e8]; rfl
      · have e9 : IntKind.i64.wrap ((i : Int) + 1) = ((i + 1 : Nat) : Int) := by rw [i64_in _ (by omega)]; omega
        rw [cF (by simpa using h128), if_neg h128, e9]
        exact ih (i + 1) m _ (by omega) (by omega) (by omega)
def getR (bs : List Int) (at' : Int) : Int × Int × Int := if at' < 0 then (0, 0, 1) else if at' > bs.length then (0, 0, 1) else gv at' 0 0 (bs.drop at'.toNat)
theorem Get_spec {n : Nat} (hn : 2 ^ 59 < n) {w : World} {A : Option Addr} {l c : Nat} {bs : List Int} (hs : Sl .u8 w A l bs) (hb : ∀ x ∈ bs, 0 ≤ x ∧ x ≤ 255) (hl : l < 2 ^ 58) (hc : l ≤ c) (at' : Int) :
    varint_Get n [.slice A l c, .int .i64 at'] w = some (gr (getR bs at'), w) := by
  have hlen := hs.1
  rw [varint_Get_eq]
  unfold getR
  by_cases g1 : at' < 0
  · rw [cT (by simpa using g1), if_pos g1, fin_ret]; rfl
  rw [cF (by simpa using g1), if_neg g1]
  by_cases g2 : at' > (l : Int)
  · rw [cT (by simpa using g2), if_pos (by omega), fin_ret]; rfl
  rw [cF (by simpa using g2), if_neg (by omega)]
  obtain ⟨A', e, hs', _, hc'⟩ := hs.cut (lo := at') (hi := l) (c := c) (by omega) (by omega) (by omega) hc
  rw [e]
  have e2 : (bs.take (l : Int).toNat).drop at'.toNat = bs.drop at'.toNat := by rw [Int.toNat_natCast, List.take_of_length_le (by omega)]
  rw [e2] at hs'
  have h := Get_l0 (n := n) (c := c - at'.toNat) hs' (fun x hx => hb x (List.mem_of_mem_drop hx)) (by omega) at' (by omega) (by omega) ((l : Int).toNat - at'.toNat) 0 n 0 (by omega) (by omega) (by omega)
  have h : (jb 0 (varint_Get.l0 n n at' 0 A' ((l : Int).toNat - at'.toNat) (c - at'.toNat) (((l : Int).toNat - at'.toNat : Nat) : Int) 0 w) _) = _ := h
  rw [h, fin_ret]; rfl
end Go.Proofs.Ytfbbdokmddjfkaa.Var
