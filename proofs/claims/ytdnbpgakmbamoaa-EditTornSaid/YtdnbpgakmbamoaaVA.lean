/- What the functions of package varint compute, and the document's own. -/
import Derived.Test.YtdnbpgakmbamoaaGE2
import Derived.Test.YtdnbpgakmbamoaaM6
namespace Go.Proofs.Ytdnbpgakmbamoaa.Var
open Go Big Go.RowKit Go.IntWalk
set_option linter.unusedVariables false
set_option linter.unusedSimpArgs false
theorem slV : ∃ i, SlT Try.prog 30 5 .u8 i := slT (by kernel_rfl)
def enc (x : Nat) : List Int := if h : x < 128 then [(x : Int)] else ((x % 128 + 128 : Nat) : Int) :: enc (x / 128)
theorem enc_small {x : Nat} (h : x < 128) : enc x = [(x : Int)] := by rw [enc, dif_pos h]
theorem enc_big {x : Nat} (h : ¬ x < 128) : enc x = ((x % 128 + 128 : Nat) : Int) :: enc (x / 128) := by rw [enc, dif_neg h]
theorem or128 : ∀ y : Fin 256, bits .or .u8 ((y.val : Nat) : Int) 128 = ((y.val % 128 + 128 : Nat) : Int) := by decide +kernel
theorem byte_more (x : Nat) : bits .or .u8 (IntKind.u8.wrap (x : Int)) 128 = ((x % 128 + 128 : Nat) : Int) := by
  have e : IntKind.u8.wrap (x : Int) = ((x % 256 : Nat) : Int) := by rw [IntKind.wrap_u8]; omega
  have h := or128 ⟨x % 256, Nat.mod_lt _ (by decide)⟩
  simp only at h
  rw [e, h]
  congr 2; omega
theorem enc_len : ∀ (k x : Nat), x < 2 ^ (7 * k + 7) → (enc x).length ≤ k + 1
  | 0, x, h => by rw [enc_small (by simpa using h)]; simp
  | k + 1, x, h => by
    by_cases hx : x < 128
    · rw [enc_small hx]; simp
    · rw [enc_big hx, List.length_cons]
      have : x / 128 < 2 ^ (7 * k + 7) := by
        have e : 2 ^ (7 * (k + 1) + 7) = 2 ^ (7 * k + 7) * 128 := by rw [show 7 * (k + 1) + 7 = 7 * k + 7 + 7 by omega, Nat.pow_add]
        rw [e] at h
        omega
      have := enc_len k _ this
      omega
theorem Put_l0 {n : Nat} {w0 : World} : ∀ (k m x : Nat) (A : Option Addr) (c : Nat) (xs : List Int) (w : World), x < 2 ^ (7 * k + 7) → k < m → xs.length + k ≤ 2 ^ 39 →
    Own .u8 5 w w0.heap.size (.slice A xs.length c) xs → Kp w0 w →
    ∃ A' c' ys w' y, varint_Put.l0 n m (x : Int) A xs.length c w = some ⟨.exit 0, [.int .u64 ((y : Nat) : Int), .slice A' ys.length c'], w'⟩ ∧ Own .u8 5 w' w0.heap.size (.slice A' ys.length c') ys ∧ Kp w0 w' ∧ y < 128 ∧ xs ++ enc x = ys ++ [(y : Int)] ∧ ys.length ≤ xs.length + k := by
  intro k
  induction k with
  | zero =>
    intro m x A c xs w hx hm hl ho hk
    obtain ⟨m, rfl⟩ : ∃ m', m = m' + 1 := ⟨m - 1, by omega⟩
    have hx : x < 128 := by simpa using hx
    exact ⟨A, c, xs, w, x, by rw [varint_Put.l0_succ, cF (by simp; omega)], ho, hk, hx, by rw [enc_small hx], by omega⟩
  | succ k ih =>
    intro m x A c xs w hx hm hl ho hk
    obtain ⟨m, rfl⟩ : ∃ m', m = m' + 1 := ⟨m - 1, by omega⟩
    by_cases h128 : x < 128
    · exact ⟨A, c, xs, w, x, by rw [varint_Put.l0_succ, cF (by simp; omega)], ho, hk, h128, by rw [enc_small h128], by omega⟩
    · obtain ⟨i8, hT⟩ := slV
      have hlit : Own .u8 5 (w.alloc (.cells ([((x % 128 + 128 : Nat) : Int)].map (Value.int .u8)).toArray 5)) w.heap.size (.slice (some ⟨w.heap.size, 0, none⟩) 1 1) [((x % 128 + 128 : Nat) : Int)] := Own.lit w [((x % 128 + 128 : Nat) : Int)] (by simp [maxLen])
      have k1 : Kp w (w.alloc (.cells ([((x % 128 + 128 : Nat) : Int)].map (Value.int .u8)).toArray 5)) := (Kp.rfl' w).al _
      obtain ⟨v, w2, e2, o2, g2, b2⟩ := append_run (P := Try.prog) hT _ w0.heap.size 30 (ho.kp k1) hlit.sl.2 (fun h => by cases h) (by omega) (Nat.le_trans hk.size k1.size)
      obtain ⟨A', c', rfl⟩ := o2.slice
      have hx' : x / 128 < 2 ^ (7 * k + 7) := by
        have e : 2 ^ (7 * (k + 1) + 7) = 2 ^ (7 * k + 7) * 128 := by rw [show 7 * (k + 1) + 7 = 7 * k + 7 + 7 by omega, Nat.pow_add]
        rw [e] at hx
        omega
      obtain ⟨A2, c2, ys, w3, y, e3, o3, k3, hy, happ, hlen⟩ := ih m (x / 128) A' c' (xs ++ [((x % 128 + 128 : Nat) : Int)]) w2 hx' (by omega) (by simp; omega) o2 ((hk.tr k1).gr g2 (fun b hb => (ho.lt b hb).1))
      refine ⟨A2, c2, ys, w3, y, ?_, o3, k3, hy, ?_, by simp at hlen; omega⟩
      · have ef : Int.fdiv (x : Int) (2 ^ 7) = ((x / 128 : Nat) : Int) := by rw [Int.fdiv_eq_ediv_of_nonneg _ (by decide)]; rfl
        have e2' := fun (f : Value → World → Option Res) => e2 f
        have ee : ∀ z : Int, (w.alloc (.cells #[(.int .u8 z)] 5)) = w.alloc (.cells ([z].map (Value.int .u8)).toArray 5) := fun z => rfl
        rw [varint_Put.l0_succ, cT (by simp; omega), byte_more, al_eq, ee, e2', tL_mk, ef, e3]
      · rw [enc_big h128, ← happ]; simp
theorem Put_spec {n : Nat} (hn : 100 < n) {w : World} {B : Option Addr} {l d : Nat} {bs : List Int} (hb : Sl .u8 w B l bs) (hB : B = none → l = 0 ∧ d = 0) (hl : l ≤ 2 ^ 38) (x : Nat) (hx : x < 2 ^ 64) :
    ∃ A c w', varint_Put n [.slice B l d, .int .u64 (x : Int)] w = some ([.slice A (bs ++ enc x).length c], w') ∧ Own .u8 5 w' w.heap.size (.slice A (bs ++ enc x).length c) (bs ++ enc x) ∧ Kp w w' := by
  obtain ⟨i8, hT⟩ := slV
  have hbl := hb.1
  obtain ⟨v, w2, e2, o2, g2, b2⟩ := append_run (P := Try.prog) hT w w.heap.size 30 (Own.nil w _) hb hB (by simp; omega) (Nat.le_refl _)
  rw [List.nil_append] at o2
  obtain ⟨A', c', rfl⟩ := o2.slice
  obtain ⟨A2, c2, ys, w3, y, e3, o3, k3, hy, happ, hlen⟩ := Put_l0 (n := n) (w0 := w) 9 n x A' c' bs w2 (by omega) (by omega) (by omega) o2 ((Kp.rfl' w).gr g2 (by simp [Value.ownBlock]))
  have hlit : Own .u8 5 (w3.alloc (.cells ([(y : Int)].map (Value.int .u8)).toArray 5)) w3.heap.size (.slice (some ⟨w3.heap.size, 0, none⟩) 1 1) [(y : Int)] := Own.lit w3 [(y : Int)] (by simp [maxLen])
  have k4 : Kp w3 (w3.alloc (.cells ([(y : Int)].map (Value.int .u8)).toArray 5)) := (Kp.rfl' w3).al _
  obtain ⟨v, w5, e5, o5, g5, b5⟩ := append_run (P := Try.prog) hT _ w.heap.size 30 (o3.kp k4) hlit.sl.2 (fun h => by cases h) (by omega) (Nat.le_trans k3.size k4.size)
  rw [← happ] at o5
  obtain ⟨A3, c3, rfl⟩ := o5.slice
  refine ⟨A3, c3, w5, ?_, o5, (k3.tr k4).gr g5 (fun b hb => (o3.lt b hb).1)⟩
  have e2' := fun (f : Value → World → Option Res) => e2 f
  have e5' := fun (f : Value → World → Option Res) => e5 f
  have ee : ∀ z : Int, (w3.alloc (.cells #[(.int .u8 z)] 5)) = w3.alloc (.cells ([z].map (Value.int .u8)).toArray 5) := fun z => rfl
  have hu : IntKind.u8.wrap (y : Int) = y := u8_in _ (by omega)
  rw [varint_Put_eq, e2', tL_mk, e3, jb_exit, tC_mk, tI_mk, tC_mk, tL_mk, tN_mk, hu, al_eq, ee, e5', tL_mk, fin_ret]

/-! ### Reading -/
def gv (at' : Int) : Nat → Int → List Int → Int × Int × Int
  | _, _, [] => (0, 0, 4)
  | i, acc, c :: cs =>
    if ((i : Int) = 9 ∧ c > 1) ∨ (0 < (i : Int) ∧ c = 0) then (0, 0, 2)
    else if c < 128 then (bits .or .u64 acc (IntKind.u64.wrap ((IntKind.u64.wrap (bits .and .u8 c 127)) * 2 ^ (7 * i))), at' + i + 1, 0)
    else gv at' (i + 1) (bits .or .u64 acc (IntKind.u64.wrap ((IntKind.u64.wrap (bits .and .u8 c 127)) * 2 ^ (7 * i)))) cs
def gr (r : Int × Int × Int) : List Value := [.int .u64 r.1, .int .i64 r.2.1, .int .i64 r.2.2]
theorem tree {α : Type} (i c : Int) (R N : α) : cond (i == 9) (cond (decide (c > 1)) R (cond (decide (i > 0)) (cond (c == 0) R N) N)) (cond (decide (i > 0)) (cond (c == 0) R N) N) = if (i = 9 ∧ c > 1) ∨ (0 < i ∧ c = 0) then R else N := by
  have b0 : ∀ x : Int, (x == 0) = decide (x = 0) := fun x => by by_cases h : x = 0 <;> simp [h]
  have b9 : ∀ x : Int, (x == 9) = decide (x = 9) := fun x => by by_cases h : x = 9 <;> simp [h]
  rw [b0, b9]
  by_cases h1 : i = 9 <;> by_cases h2 : c > 1 <;> by_cases h3 : i > 0 <;> by_cases h4 : c = 0 <;> simp [h1, h2, h3, h4] <;> omega
theorem Get_l0 {n : Nat} {w : World} {A : Option Addr} {l c : Nat} {xs : List Int} (hs : Sl .u8 w A l xs) (hb : ∀ x ∈ xs, 0 ≤ x ∧ x ≤ 255) (hl : l < 2 ^ 60) (at' : Int) (h0 : 0 ≤ at') (h1 : at' < 2 ^ 60) :
    ∀ (k i m : Nat) (acc : Int), i + k = l → k < m → i ≤ 9 →
    (jb 0 (varint_Get.l0 n m at' acc A l c (l : Int) (i : Int) w) fun vs w => tN vs (some ⟨.ret, [.int .u64 0, .int .i64 0, .int .i64 4], w⟩)) = some ⟨.ret, gr (gv at' i acc (xs.drop i)), w⟩ := by
  intro k
  induction k with
  | zero =>
    intro i m acc hi hm h9
    obtain ⟨m, rfl⟩ : ∃ m', m = m' + 1 := ⟨m - 1, by omega⟩
    rw [varint_Get.l0_succ, cF (by simp; omega), jb_exit, tN_mk, List.drop_of_length_le (by rw [hs.1]; omega)]
    rfl
  | succ k ih =>
    intro i m acc hi hm h9
    obtain ⟨m, rfl⟩ : ∃ m', m = m' + 1 := ⟨m - 1, by omega⟩
    have hlen : i < xs.length := by rw [hs.1]; omega
    have e1 : xs.getD (i : Int).toNat 0 = xs[i] := by simp [List.getD_eq_getElem?_getD, hlen]
    have hc := hb xs[i] (List.getElem_mem _)
    rw [varint_Get.l0_succ, cT (by simp; omega), hs.ix (by omega) (by omega), e1, tree, List.drop_eq_getElem_cons hlen, gv]
    generalize hz : xs[i] = z at hc ⊢
    by_cases hbad : ((i : Int) = 9 ∧ z > 1) ∨ (0 < (i : Int) ∧ z = 0)
    · rw [if_pos hbad, if_pos hbad, jm_ret, jb_ret]; rfl
    · rw [if_neg hbad, if_neg hbad, jm_norm, tC_mk, tI_mk, tC_mk, tI_mk, tC_mk, tI_mk, tC_mk, tI_mk, tC_mk, tL_mk, tC_mk, tI_mk, tC_mk, tI_mk, tN_mk]
      have e7 : IntKind.i64.wrap (7 * (i : Int)) = ((7 * i : Nat) : Int) := by rw [i64_in _ (by omega)]; omega
      have em : min ((7 * i : Nat) : Int).toNat 64 = 7 * i := by omega
      rw [e7, if_neg (by omega), em]
      by_cases h128 : z < 128
      · have e8 : IntKind.i64.wrap (IntKind.i64.wrap (at' + (i : Int)) + 1) = at' + i + 1 := by rw [i64_in (at' + i) (by omega), i64_in _ (by omega)]
        rw [cT (by simpa using h128), if_pos h128, jb_ret, e8]; rfl
      · have e9 : IntKind.i64.wrap ((i : Int) + 1) = ((i + 1 : Nat) : Int) := by rw [i64_in _ (by omega)]; omega
        rw [cF (by simpa using h128), if_neg h128, e9]
        exact ih (i + 1) m _ (by omega) (by omega) (by omega)
def getR (bs : List Int) (at' : Int) : Int × Int × Int := if at' < 0 then (0, 0, 1) else if at' > bs.length then (0, 0, 1) else gv at' 0 0 (bs.drop at'.toNat)
theorem Get_spec {n : Nat} (hn : 2 ^ 59 < n) {w : World} {A : Option Addr} {l c : Nat} {bs : List Int} (hs : Sl .u8 w A l bs) (hb : ∀ x ∈ bs, 0 ≤ x ∧ x ≤ 255) (hl : l < 2 ^ 58) (hc : l ≤ c) (at' : Int) :
    varint_Get n [.slice A l c, .int .i64 at'] w = some (gr (getR bs at'), w) := by
  have hlen := hs.1
  rw [varint_Get_eq]
  unfold getR
  by_cases g1 : at' < 0
  · rw [cT (by simpa using g1), if_pos g1, fin_ret]; rfl
  rw [cF (by simpa using g1), if_neg g1]
  by_cases g2 : at' > (l : Int)
  · rw [cT (by simpa using g2), if_pos (by omega), fin_ret]; rfl
  rw [cF (by simpa using g2), if_neg (by omega)]
  obtain ⟨A', e, hs', _, hc'⟩ := hs.cut (lo := at') (hi := l) (c := c) (by omega) (by omega) (by omega) hc
  rw [e]
  have e2 : (bs.take (l : Int).toNat).drop at'.toNat = bs.drop at'.toNat := by rw [Int.toNat_natCast, List.take_of_length_le (by omega)]
  rw [e2] at hs'
  have h := Get_l0 (n := n) (c := c - at'.toNat) hs' (fun x hx => hb x (List.mem_of_mem_drop hx)) (by omega) at' (by omega) (by omega) ((l : Int).toNat - at'.toNat) 0 n 0 (by omega) (by omega) (by omega)
  have h : (jb 0 (varint_Get.l0 n n at' 0 A' ((l : Int).toNat - at'.toNat) (c - at'.toNat) (((l : Int).toNat - at'.toNat : Nat) : Int) 0 w) _) = _ := h
  rw [h, fin_ret]; rfl
theorem fdiv7 (y : Nat) : Int.fdiv (y : Int) (2 ^ 7) = ((y / 128 : Nat) : Int) := by rw [Int.fdiv_eq_ediv_of_nonneg _ (by decide)]; rfl
theorem clG {α : Type} {r : Int × Int × Int} {w : World} {f : Int → Int → Int → World → Option α} :
    (cl (some (gr r, w)) fun vs w => tC vs fun v cs => tI .u64 v fun a => tC cs fun v cs => tI .i64 v fun b => tC cs fun v cs => tI .i64 v fun c => tN cs (f a b c w)) = f r.1 r.2.1 r.2.2 w := by
  rw [cl_some, gr, tC_mk, tI_mk, tC_mk, tI_mk, tC_mk, tI_mk, tN_mk]
theorem Ref_l0 {n : Nat} {w : World} {A : Option Addr} {l c : Nat} {xs : List Int} (hs : Sl .u8 w A l xs) (hb : ∀ x ∈ xs, 0 ≤ x ∧ x ≤ 255) (hl : l < 2 ^ 60) (at' : Nat) (h1 : at' ≤ l) :
    ∀ (k i m : Nat) (acc : Int), at' + i + k = l → k < m → i ≤ 9 → butteryref1_GetVar.l0 n m A l c (at' : Int) acc (i : Int) w = some ⟨.ret, gr (gv at' i acc (xs.drop (at' + i))), w⟩ := by
  intro k
  induction k with
  | zero =>
    intro i m acc hi hm h9
    obtain ⟨m, rfl⟩ : ∃ m', m = m' + 1 := ⟨m - 1, by omega⟩
    have ew : IntKind.i64.wrap ((at' : Int) + (i : Int)) = ((at' + i : Nat) : Int) := by rw [i64_in _ (by omega)]; omega
    rw [butteryref1_GetVar.l0_succ, ew, cT (by simp; omega), List.drop_of_length_le (by rw [hs.1]; omega)]
    rfl
  | succ k ih =>
    intro i m acc hi hm h9
    obtain ⟨m, rfl⟩ : ∃ m', m = m' + 1 := ⟨m - 1, by omega⟩
    have ew : IntKind.i64.wrap ((at' : Int) + (i : Int)) = ((at' + i : Nat) : Int) := by rw [i64_in _ (by omega)]; omega
    have hlen : at' + i < xs.length := by rw [hs.1]; omega
    have e1 : xs.getD ((at' + i : Nat) : Int).toNat 0 = xs[at' + i] := by rw [Int.toNat_natCast, List.getD_eq_getElem?_getD, List.getElem?_eq_getElem hlen]; rfl
    have hc := hb xs[at' + i] (List.getElem_mem _)
    rw [butteryref1_GetVar.l0_succ, ew, cF (by simp; omega), hs.ix (by omega) (by omega), e1, tree, List.drop_eq_getElem_cons hlen, gv]
    generalize hz : xs[at' + i] = z at hc ⊢
    by_cases hbad : ((i : Int) = 9 ∧ z > 1) ∨ (0 < (i : Int) ∧ z = 0)
    · rw [if_pos hbad, if_pos hbad, jm_ret]; rfl
    · rw [if_neg hbad, if_neg hbad, jm_norm, tC_mk, tL_mk, tC_mk, tI_mk, tC_mk, tI_mk, tC_mk, tI_mk, tC_mk, tI_mk, tN_mk]
      have e7 : IntKind.u64.wrap (IntKind.i64.wrap (7 * (i : Int))) = ((7 * i : Nat) : Int) := by rw [i64_in _ (by omega), u64_in _ (by omega)]; omega
      have em : min ((7 * i : Nat) : Int).toNat 64 = 7 * i := by omega
      rw [e7, if_neg (by omega), em]
      by_cases h128 : z < 128
      · have e8 : IntKind.i64.wrap (((at' + i : Nat) : Int) + 1) = (at' : Int) + i + 1 := by rw [i64_in _ (by omega)]; omega
        rw [cT (by simpa using h128), if_pos h128, ew, e8]; rfl
      · have e9 : IntKind.i64.wrap ((i : Int) + 1) = ((i + 1 : Nat) : Int) := by rw [i64_in _ (by omega)]; omega
        rw [cF (by simpa using h128), if_neg h128, e9]
        exact ih (i + 1) m _ (by omega) (by omega) (by omega)
theorem Ref_spec {n : Nat} (hn : 2 ^ 59 < n) {w : World} {A : Option Addr} {l c : Nat} {bs : List Int} (hs : Sl .u8 w A l bs) (hb : ∀ x ∈ bs, 0 ≤ x ∧ x ≤ 255) (hl : l < 2 ^ 58) (at' : Int) :
    butteryref1_GetVar n [.slice A l c, .int .i64 at'] w = some (gr (getR bs at'), w) := by
  have hlen := hs.1
  rw [butteryref1_GetVar_eq]
  unfold getR
  by_cases g1 : at' < 0
  · rw [cT (by simpa using g1), if_pos g1, fin_ret]; rfl
  rw [cF (by simpa using g1), if_neg g1]
  by_cases g2 : at' > (l : Int)
  · rw [cT (by simpa using g2), if_pos (by omega), fin_ret]; rfl
  rw [cF (by simpa using g2), if_neg (by omega)]
  obtain ⟨a, rfl⟩ : ∃ a : Nat, at' = a := ⟨at'.toNat, by omega⟩
  have h := Ref_l0 (n := n) (c := c) hs hb (by omega) a (by omega) (l - a) 0 n 0 (by omega) (by omega) (by omega)
  have h : butteryref1_GetVar.l0 n n A l c (a : Int) 0 0 w = _ := h
  rw [h, fin_ret]; rfl
theorem or64 {x y k : Nat} (hx : x < 2 ^ k) (h : x + y * 2 ^ k < 2 ^ 64) : bits .or .u64 (x : Int) ((y * 2 ^ k : Nat) : Int) = ((x + y * 2 ^ k : Nat) : Int) := by
  have e : x ||| y * 2 ^ k = x + y * 2 ^ k := by
    rw [Nat.or_comm, Nat.mul_comm, ← Nat.two_pow_add_eq_or_of_lt hx, Nat.add_comm]
  have hx64 : x < 2 ^ 64 := by omega
  have hy64 : y * 2 ^ k < 2 ^ 64 := by omega
  have hb : (BitVec.ofNat 64 x ||| BitVec.ofNat 64 (y * 2 ^ k)).toNat = x + y * 2 ^ k := by
    rw [BitVec.toNat_or, BitVec.toNat_ofNat, BitVec.toNat_ofNat, Nat.mod_eq_of_lt hx64, Nat.mod_eq_of_lt hy64, e]
  unfold bits
  simp only [IntKind.bits, BitVec.ofInt_natCast]
  show IntKind.u64.wrap (((BitVec.ofNat 64 x ||| BitVec.ofNat 64 (y * 2 ^ k)).toNat : Nat) : Int) = _
  rw [hb]
  generalize x + y * 2 ^ k = z at h ⊢
  exact u64_in (z : Int) (by omega)
theorem and127f : ∀ y : Fin 256, bits .and .u8 ((y.val : Nat) : Int) 127 = ((y.val % 128 : Nat) : Int) := by decide +kernel
theorem and127 {y : Nat} (h : y < 256) : bits .and .u8 (y : Int) 127 = ((y % 128 : Nat) : Int) := and127f ⟨y, h⟩
/-- One byte more. -/
theorem join {acc c i : Nat} (ha : acc < 2 ^ (7 * i)) (hc : c < 256) (h : acc + (c % 128) * 2 ^ (7 * i) < 2 ^ 64) :
    bits .or .u64 (acc : Int) (IntKind.u64.wrap ((IntKind.u64.wrap (bits .and .u8 (c : Int) 127)) * 2 ^ (7 * i))) = ((acc + (c % 128) * 2 ^ (7 * i) : Nat) : Int) := by
  have e1 : IntKind.u64.wrap ((c % 128 : Nat) : Int) = ((c % 128 : Nat) : Int) := u64_in _ (by omega)
  have e2 : ((c % 128 : Nat) : Int) * 2 ^ (7 * i) = (((c % 128) * 2 ^ (7 * i) : Nat) : Int) := by rw [Int.natCast_mul, Int.natCast_pow]; rfl
  have e3 : IntKind.u64.wrap (((c % 128) * 2 ^ (7 * i) : Nat) : Int) = (((c % 128) * 2 ^ (7 * i) : Nat) : Int) := by
    generalize (c % 128) * 2 ^ (7 * i) = z at h ⊢
    exact u64_in _ (by omega)
  rw [and127 hc, e1, e2, e3, or64 ha h]
theorem pow_split (i : Nat) (h : 7 * i + 7 ≤ 64) : 2 ^ (64 - 7 * i) = 2 ^ (64 - 7 * (i + 1)) * 128 := by
  rw [show (128 : Nat) = 2 ^ 7 from rfl, ← Nat.pow_add]; congr 1; omega
theorem fit {acc x i : Nat} (hi : 7 * i ≤ 64) (ha : acc < 2 ^ (7 * i)) (hx : x < 2 ^ (64 - 7 * i)) : acc + x * 2 ^ (7 * i) < 2 ^ 64 := by
  have h1 : (x + 1) * 2 ^ (7 * i) ≤ 2 ^ (64 - 7 * i) * 2 ^ (7 * i) := Nat.mul_le_mul_right _ hx
  rw [← Nat.pow_add, show 64 - 7 * i + 7 * i = 64 by omega, Nat.add_mul, Nat.one_mul] at h1
  omega
theorem gv_enc (at' : Int) (rest : List Int) : ∀ (k x i acc : Nat), x < 2 ^ (7 * k + 7) → i ≤ 9 → acc < 2 ^ (7 * i) → x < 2 ^ (64 - 7 * i) → (0 < i → 0 < x) →
    gv at' i (acc : Int) (enc x ++ rest) = (((acc + x * 2 ^ (7 * i) : Nat) : Int), at' + i + (enc x).length, 0) := by
  intro k
  induction k with
  | zero =>
    intro x i acc hk hi ha hx h0
    have h128 : x < 128 := by simpa using hk
    have h9 : ¬ (((i : Int) = 9 ∧ (x : Int) > 1) ∨ (0 < (i : Int) ∧ (x : Int) = 0)) := by
      rintro (⟨h, h'⟩ | ⟨h, h'⟩)
      · have : i = 9 := by omega
        subst this
        have : x < 2 := by simpa using hx
        omega
      · have := h0 (by omega); omega
    have hm : x % 128 = x := Nat.mod_eq_of_lt h128
    have hj := join (acc := acc) (c := x) (i := i) ha (by omega) (by rw [hm]; exact fit (by omega) ha hx)
    rw [enc_small h128, List.cons_append, gv, if_neg h9, if_pos (by omega), hj, hm]
    rfl
  | succ k ih =>
    intro x i acc hk hi ha hx h0
    by_cases h128 : x < 128
    · have h9 : ¬ (((i : Int) = 9 ∧ (x : Int) > 1) ∨ (0 < (i : Int) ∧ (x : Int) = 0)) := by
        rintro (⟨h, h'⟩ | ⟨h, h'⟩)
        · have : i = 9 := by omega
          subst this
          have : x < 2 := by simpa using hx
          omega
        · have := h0 (by omega); omega
      have hm : x % 128 = x := Nat.mod_eq_of_lt h128
      have hj := join (acc := acc) (c := x) (i := i) ha (by omega) (by rw [hm]; exact fit (by omega) ha hx)
      rw [enc_small h128, List.cons_append, gv, if_neg h9, if_pos (by omega), hj, hm]
      rfl
    · have hi8 : i ≤ 8 := by
        rcases Nat.lt_or_ge 8 i with h | h
        · have : i = 9 := by omega
          subst this
          have : x < 2 := by simpa using hx
          omega
        · exact h
      have h9 : ¬ (((i : Int) = 9 ∧ ((x % 128 + 128 : Nat) : Int) > 1) ∨ (0 < (i : Int) ∧ ((x % 128 + 128 : Nat) : Int) = 0)) := by omega
      have hm : (x % 128 + 128) % 128 = x % 128 := by omega
      have hf := fit (by omega) ha hx
      have hle : x % 128 * 2 ^ (7 * i) ≤ x * 2 ^ (7 * i) := Nat.mul_le_mul_right _ (Nat.mod_le _ _)
      have hj := join (acc := acc) (c := x % 128 + 128) (i := i) ha (by omega) (by rw [hm]; omega)
      have hp : 2 ^ (7 * (i + 1)) = 128 * 2 ^ (7 * i) := by rw [show 7 * (i + 1) = 7 + 7 * i by omega, Nat.pow_add]
      have hacc : acc + x % 128 * 2 ^ (7 * i) < 2 ^ (7 * (i + 1)) := by
        rw [hp]
        have h1 : (x % 128 + 1) * 2 ^ (7 * i) ≤ 128 * 2 ^ (7 * i) := Nat.mul_le_mul_right _ (Nat.mod_lt _ (by decide))
        rw [Nat.add_mul, Nat.one_mul] at h1
        omega
      have hx' : x / 128 < 2 ^ (64 - 7 * (i + 1)) := by
        rw [pow_split i (by omega)] at hx; omega
      have hk' : x / 128 < 2 ^ (7 * k + 7) := by
        have e : 2 ^ (7 * (k + 1) + 7) = 2 ^ (7 * k + 7) * 128 := by rw [show 7 * (k + 1) + 7 = 7 * k + 7 + 7 by omega, Nat.pow_add]
        rw [e] at hk; omega
      have hr := ih (x / 128) (i + 1) (acc + x % 128 * 2 ^ (7 * i)) hk' (by omega) hacc hx' (fun _ => by omega)
      rw [enc_big h128, List.cons_append, gv, if_neg h9, if_neg (by omega), hj, hm, hr]
      have e1 : acc + x % 128 * 2 ^ (7 * i) + x / 128 * 2 ^ (7 * (i + 1)) = acc + x * 2 ^ (7 * i) := by
        rw [hp, ← Nat.mul_assoc, Nat.add_assoc, ← Nat.add_mul]
        congr 2; omega
      rw [e1, List.length_cons]
      congr 2; omega
theorem gv_short (at' : Int) : ∀ (k x i acc : Nat), x < 2 ^ (7 * k + 7) → i ≤ 9 → acc < 2 ^ (7 * i) → x < 2 ^ (64 - 7 * i) → gv at' i (acc : Int) (enc x).dropLast = (0, 0, 4) := by
  intro k
  induction k with
  | zero =>
    intro x i acc hk hi ha hx
    rw [enc_small (by simpa using hk)]; rfl
  | succ k ih =>
    intro x i acc hk hi ha hx
    by_cases h128 : x < 128
    · rw [enc_small h128]; rfl
    · have hi8 : i ≤ 8 := by
        rcases Nat.lt_or_ge 8 i with h | h
        · have : i = 9 := by omega
          subst this
          have : x < 2 := by simpa using hx
          omega
        · exact h
      have h9 : ¬ (((i : Int) = 9 ∧ ((x % 128 + 128 : Nat) : Int) > 1) ∨ (0 < (i : Int) ∧ ((x % 128 + 128 : Nat) : Int) = 0)) := by omega
      have hm : (x % 128 + 128) % 128 = x % 128 := by omega
      have hf := fit (by omega) ha hx
      have hle : x % 128 * 2 ^ (7 * i) ≤ x * 2 ^ (7 * i) := Nat.mul_le_mul_right _ (Nat.mod_le _ _)
      have hj := join (acc := acc) (c := x % 128 + 128) (i := i) ha (by omega) (by rw [hm]; omega)
      have hp : 2 ^ (7 * (i + 1)) = 128 * 2 ^ (7 * i) := by rw [show 7 * (i + 1) = 7 + 7 * i by omega, Nat.pow_add]
      have hacc : acc + x % 128 * 2 ^ (7 * i) < 2 ^ (7 * (i + 1)) := by
        rw [hp]
        have h1 : (x % 128 + 1) * 2 ^ (7 * i) ≤ 128 * 2 ^ (7 * i) := Nat.mul_le_mul_right _ (Nat.mod_lt _ (by decide))
        rw [Nat.add_mul, Nat.one_mul] at h1
        omega
      have hx' : x / 128 < 2 ^ (64 - 7 * (i + 1)) := by
        rw [pow_split i (by omega)] at hx; omega
      have hk' : x / 128 < 2 ^ (7 * k + 7) := by
        have e : 2 ^ (7 * (k + 1) + 7) = 2 ^ (7 * k + 7) * 128 := by rw [show 7 * (k + 1) + 7 = 7 * k + 7 + 7 by omega, Nat.pow_add]
        rw [e] at hk; omega
      have hne : enc (x / 128) ≠ [] := by rw [enc]; split <;> simp
      rw [enc_big h128, List.dropLast_cons_of_ne_nil hne, gv, if_neg h9, if_neg (by omega), hj, hm]
      exact ih (x / 128) (i + 1) _ hk' (by omega) hacc hx'
theorem enc_bytes : ∀ (k x : Nat), x < 2 ^ (7 * k + 7) → ∀ y ∈ enc x, 0 ≤ y ∧ y ≤ 255
  | 0, x, h => by rw [enc_small (by simpa using h)]; have : x < 128 := by simpa using h
                  intro y hy; rw [List.mem_singleton] at hy; omega
  | k + 1, x, h => by
    by_cases h128 : x < 128
    · rw [enc_small h128]; intro y hy; rw [List.mem_singleton] at hy; omega
    · rw [enc_big h128]
      have hk' : x / 128 < 2 ^ (7 * k + 7) := by
        have e : 2 ^ (7 * (k + 1) + 7) = 2 ^ (7 * k + 7) * 128 := by rw [show 7 * (k + 1) + 7 = 7 * k + 7 + 7 by omega, Nat.pow_add]
        rw [e] at h; omega
      intro y hy
      rcases List.mem_cons.1 hy with rfl | hy
      · omega
      · exact enc_bytes k _ hk' y hy
theorem enc_pos (x : Nat) : 1 ≤ (enc x).length := by rw [enc]; split <;> simp
theorem getR_enc (bs rest : List Int) (x : Nat) (hx : x < 2 ^ 64) : getR (bs ++ enc x ++ rest) (bs.length : Int) = ((x : Int), ((bs.length + (enc x).length : Nat) : Int), 0) := by
  have h := gv_enc (bs.length : Int) rest 9 x 0 0 (by omega) (by omega) (by decide) (by simpa using hx) (fun h => absurd h (by omega))
  unfold getR
  rw [if_neg (by omega), if_neg (by simp; omega), List.append_assoc, Int.toNat_natCast, List.drop_left]
  have h : gv (bs.length : Int) 0 0 (enc x ++ rest) = _ := h
  rw [h]; simp
theorem and_127 (z : Nat) (h : z < 2 ^ 64) : bits .and .u64 (z : Int) 127 = ((z % 128 : Nat) : Int) := by
  have hb : (BitVec.ofNat 64 z &&& BitVec.ofNat 64 127).toNat = z % 128 := by
    rw [BitVec.toNat_and, BitVec.toNat_ofNat, BitVec.toNat_ofNat, Nat.mod_eq_of_lt h]
    exact Nat.and_two_pow_sub_one_eq_mod z 7
  unfold bits
  simp only [IntKind.bits]
  show IntKind.u64.wrap (((BitVec.ofInt 64 (z : Int) &&& BitVec.ofInt 64 ((127 : Nat) : Int)).toNat : Nat) : Int) = _
  rw [BitVec.ofInt_natCast, BitVec.ofInt_natCast, hb]
  exact u64_in _ (by omega)
theorem byte_more' (x : Nat) (h : x < 2 ^ 64) : IntKind.u8.wrap (bits .or .u64 (bits .and .u64 (x : Int) 127) 128) = ((x % 128 + 128 : Nat) : Int) := by
  have := or64 (x := x % 128) (y := 1) (k := 7) (by omega) (by omega)
  rw [and_127 x h]
  have e : bits .or .u64 ((x % 128 : Nat) : Int) 128 = ((x % 128 + 128 : Nat) : Int) := this
  rw [e]
  exact u8_in _ (by omega)
theorem RPut_l0 {n : Nat} {w0 : World} : ∀ (k m x : Nat) (A : Option Addr) (c : Nat) (xs : List Int) (w : World), x < 2 ^ (7 * k + 7) → x < 2 ^ 64 → k < m → xs.length + k ≤ 2 ^ 39 →
    Own .u8 5 w w0.heap.size (.slice A xs.length c) xs → Kp w0 w →
    ∃ A' c' ys w' y, butteryref1_PutVar.l0 n m (x : Int) A xs.length c w = some ⟨.exit 0, [.int .u64 ((y : Nat) : Int), .slice A' ys.length c'], w'⟩ ∧ Own .u8 5 w' w0.heap.size (.slice A' ys.length c') ys ∧ Kp w0 w' ∧ y < 128 ∧ xs ++ enc x = ys ++ [(y : Int)] ∧ ys.length ≤ xs.length + k := by
  intro k
  induction k with
  | zero =>
    intro m x A c xs w hx h64 hm hl ho hk
    obtain ⟨m, rfl⟩ : ∃ m', m = m' + 1 := ⟨m - 1, by omega⟩
    have hx : x < 128 := by simpa using hx
    exact ⟨A, c, xs, w, x, by rw [butteryref1_PutVar.l0_succ, cF (by simp; omega)], ho, hk, hx, by rw [enc_small hx], by omega⟩
  | succ k ih =>
    intro m x A c xs w hx h64 hm hl ho hk
    obtain ⟨m, rfl⟩ : ∃ m', m = m' + 1 := ⟨m - 1, by omega⟩
    by_cases h128 : x < 128
    · exact ⟨A, c, xs, w, x, by rw [butteryref1_PutVar.l0_succ, cF (by simp; omega)], ho, hk, h128, by rw [enc_small h128], by omega⟩
    · obtain ⟨i8, hT⟩ := slV
      have hlit : Own .u8 5 (w.alloc (.cells ([((x % 128 + 128 : Nat) : Int)].map (Value.int .u8)).toArray 5)) w.heap.size (.slice (some ⟨w.heap.size, 0, none⟩) 1 1) [((x % 128 + 128 : Nat) : Int)] := Own.lit w [((x % 128 + 128 : Nat) : Int)] (by simp [maxLen])
      have k1 : Kp w (w.alloc (.cells ([((x % 128 + 128 : Nat) : Int)].map (Value.int .u8)).toArray 5)) := (Kp.rfl' w).al _
      obtain ⟨v, w2, e2, o2, g2, b2⟩ := append_run (P := Try.prog) hT _ w0.heap.size 30 (ho.kp k1) hlit.sl.2 (fun h => by cases h) (by omega) (Nat.le_trans hk.size k1.size)
      obtain ⟨A', c', rfl⟩ := o2.slice
      have hx' : x / 128 < 2 ^ (7 * k + 7) := by
        have e : 2 ^ (7 * (k + 1) + 7) = 2 ^ (7 * k + 7) * 128 := by rw [show 7 * (k + 1) + 7 = 7 * k + 7 + 7 by omega, Nat.pow_add]
        rw [e] at hx
        omega
      obtain ⟨A2, c2, ys, w3, y, e3, o3, k3, hy, happ, hlen⟩ := ih m (x / 128) A' c' (xs ++ [((x % 128 + 128 : Nat) : Int)]) w2 hx' (by omega) (by omega) (by simp; omega) o2 ((hk.tr k1).gr g2 (fun b hb => (ho.lt b hb).1))
      refine ⟨A2, c2, ys, w3, y, ?_, o3, k3, hy, ?_, by simp at hlen; omega⟩
      · have e2' := fun (f : Value → World → Option Res) => e2 f
        have ee : ∀ z : Int, (w.alloc (.cells #[(.int .u8 z)] 5)) = w.alloc (.cells ([z].map (Value.int .u8)).toArray 5) := fun z => rfl
        rw [butteryref1_PutVar.l0_succ, cT (by simp; omega), byte_more' x h64, al_eq, ee, e2', tL_mk, fdiv7, e3]
      · rw [enc_big h128, ← happ]; simp
theorem RPut_spec {n : Nat} (hn : 100 < n) {w : World} {B : Option Addr} {l d : Nat} {bs : List Int} (hb : Sl .u8 w B l bs) (hB : B = none → l = 0 ∧ d = 0) (hl : l ≤ 2 ^ 38) (x : Nat) (hx : x < 2 ^ 64) :
    ∃ A c w', butteryref1_PutVar n [.slice B l d, .int .u64 (x : Int)] w = some ([.slice A (bs ++ enc x).length c], w') ∧ Own .u8 5 w' w.heap.size (.slice A (bs ++ enc x).length c) (bs ++ enc x) ∧ Kp w w' := by
  obtain ⟨i8, hT⟩ := slV
  have hbl := hb.1
  obtain ⟨v, w2, e2, o2, g2, b2⟩ := append_run (P := Try.prog) hT w w.heap.size 30 (Own.nil w _) hb hB (by simp; omega) (Nat.le_refl _)
  rw [List.nil_append] at o2
  obtain ⟨A', c', rfl⟩ := o2.slice
  obtain ⟨A2, c2, ys, w3, y, e3, o3, k3, hy, happ, hlen⟩ := RPut_l0 (n := n) (w0 := w) 9 n x A' c' bs w2 (by omega) hx (by omega) (by omega) o2 ((Kp.rfl' w).gr g2 (by simp [Value.ownBlock]))
  have hlit : Own .u8 5 (w3.alloc (.cells ([(y : Int)].map (Value.int .u8)).toArray 5)) w3.heap.size (.slice (some ⟨w3.heap.size, 0, none⟩) 1 1) [(y : Int)] := Own.lit w3 [(y : Int)] (by simp [maxLen])
  have k4 : Kp w3 (w3.alloc (.cells ([(y : Int)].map (Value.int .u8)).toArray 5)) := (Kp.rfl' w3).al _
  obtain ⟨v, w5, e5, o5, g5, b5⟩ := append_run (P := Try.prog) hT _ w.heap.size 30 (o3.kp k4) hlit.sl.2 (fun h => by cases h) (by omega) (Nat.le_trans k3.size k4.size)
  rw [← happ] at o5
  obtain ⟨A3, c3, rfl⟩ := o5.slice
  refine ⟨A3, c3, w5, ?_, o5, (k3.tr k4).gr g5 (fun b hb => (o3.lt b hb).1)⟩
  have e2' := fun (f : Value → World → Option Res) => e2 f
  have e5' := fun (f : Value → World → Option Res) => e5 f
  have ee : ∀ z : Int, (w3.alloc (.cells #[(.int .u8 z)] 5)) = w3.alloc (.cells ([z].map (Value.int .u8)).toArray 5) := fun z => rfl
  have hu : IntKind.u8.wrap (y : Int) = y := u8_in _ (by omega)
  rw [butteryref1_PutVar_eq, e2', tL_mk, e3, jb_exit, tC_mk, tI_mk, tC_mk, tL_mk, tN_mk, hu, al_eq, ee, e5', tL_mk, fin_ret]
/-! ### As calls -/
theorem enc_wf {x : Nat} (hx : x < 2 ^ 64) : ∀ z ∈ enc x, (Lit.int .u8 z).wf = true := fun z hz => by
  have := enc_bytes 9 x (by omega) z hz
  have h0 : IntKind.u8.min = 0 := rfl
  have h1 : IntKind.u8.max = 255 := rfl
  simp only [Lit.wf, h0, h1, Bool.and_eq_true, decide_eq_true_eq]; omega
section
variable {n : Nat} {w : World} {A : Option Addr} {l c : Nat} {xs : List Int}
theorem PutS (hx : Bv .u8 w A l c xs) (hl : l ≤ 2 ^ 38) {x : Int} (h : 0 ≤ x ∧ x < 2 ^ 64) (hn : 100 < n) : Rt (varint_Put n [.slice A l c, .int .u64 x] w) (RO .u8 5 w (xs ++ enc x.toNat)) := by
  obtain ⟨B, d, w', h1, h2, h3⟩ := Put_spec (n := n) hn hx.sl hx.nil hl x.toNat (by omega)
  rw [show ((x.toNat : Nat) : Int) = x by omega] at h1
  exact ⟨_, h1, B, d, w', rfl, h2, h3⟩
theorem RPutS (hx : Bv .u8 w A l c xs) (hl : l ≤ 2 ^ 38) {x : Int} (h : 0 ≤ x ∧ x < 2 ^ 64) (hn : 100 < n) : Rt (butteryref1_PutVar n [.slice A l c, .int .u64 x] w) (RO .u8 5 w (xs ++ enc x.toNat)) := by
  obtain ⟨B, d, w', h1, h2, h3⟩ := RPut_spec (n := n) hn hx.sl hx.nil hl x.toNat (by omega)
  rw [show ((x.toNat : Nat) : Int) = x by omega] at h1
  exact ⟨_, h1, B, d, w', rfl, h2, h3⟩
theorem u8b {xs : List Int} (h : ∀ x ∈ xs, (Lit.int .u8 x).wf = true) : ∀ x ∈ xs, 0 ≤ x ∧ x ≤ 255 := fun x hx => by have := u8wf (h x hx); omega
theorem GetS (hx : Bv .u8 w A l c xs) (hl : l < 2 ^ 58) (hn : 2 ^ 59 < n) (i : Int) : varint_Get n [.slice A l c, .int .i64 i] w = some (gr (getR xs i), w) := Get_spec hn hx.sl (u8b hx.rng) hl hx.cap i
theorem RGetS (hx : Bv .u8 w A l c xs) (hl : l < 2 ^ 58) (hn : 2 ^ 59 < n) (i : Int) : butteryref1_GetVar n [.slice A l c, .int .i64 i] w = some (gr (getR xs i), w) := Ref_spec hn hx.sl (u8b hx.rng) hl i
theorem own_nil {e : TypeId} {k : IntKind} {base : Nat} {A : Option Addr} {l c : Nat} {xs : List Int} (h : Own k e w base (.slice A l c) xs) : A = none → l = 0 ∧ c = 0 := by
  intro hA; subst hA
  rcases h.2 with ⟨h', hn'⟩ | ⟨g, cap, cur, h', _⟩
  · injection h' with _ h1 h2; exact ⟨h1, h2⟩
  · injection h' with h1 _ _; cases h1
theorem PutO {base : Nat} (ho : Own .u8 5 w base (.slice A l c) xs) (hl : l ≤ 2 ^ 38) {x : Int} (h : 0 ≤ x ∧ x < 2 ^ 64) (hn : 100 < n) : Rt (varint_Put n [.slice A l c, .int .u64 x] w) (RO .u8 5 w (xs ++ enc x.toNat)) := by
  obtain ⟨B, d, w', h1, h2, h3⟩ := Put_spec (n := n) hn ho.sl.2 (own_nil ho) hl x.toNat (by omega)
  rw [show ((x.toNat : Nat) : Int) = x by omega] at h1
  exact ⟨_, h1, B, d, w', rfl, h2, h3⟩
theorem RPutO {base : Nat} (ho : Own .u8 5 w base (.slice A l c) xs) (hl : l ≤ 2 ^ 38) {x : Int} (h : 0 ≤ x ∧ x < 2 ^ 64) (hn : 100 < n) : Rt (butteryref1_PutVar n [.slice A l c, .int .u64 x] w) (RO .u8 5 w (xs ++ enc x.toNat)) := by
  obtain ⟨B, d, w', h1, h2, h3⟩ := RPut_spec (n := n) hn ho.sl.2 (own_nil ho) hl x.toNat (by omega)
  rw [show ((x.toNat : Nat) : Int) = x by omega] at h1
  exact ⟨_, h1, B, d, w', rfl, h2, h3⟩
end
end Go.Proofs.Ytdnbpgakmbamoaa.Var
