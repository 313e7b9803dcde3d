/- VarintPuts: what the law comes to. -/
import Derived.Test.YtfbbdokmddjfkaaV5
namespace Go.Proofs.Ytfbbdokmddjfkaa.Var
open Go Big Go.RowKit Go.IntWalk
set_option linter.unusedVariables false
set_option linter.unusedSimpArgs false
def str (xs : List Int) : ByteArray := ⟨(xs.map fun (x : Int) => UInt8.ofNat x.toNat).toArray⟩
theorem rdB_ok {w : World} {a : Addr} : ∀ (m i : Nat) (xs : List Int), (∀ j, j < m → w.cell? (a.add (i + j)) = some (.int .u8 (xs.getD j 0))) → xs.length = m → rdB w a m i = some (xs.map fun (x : Int) => UInt8.ofNat x.toNat)
  | 0, i, xs, _, hl => by
    have : xs = [] := List.length_eq_zero_iff.1 hl
    subst this; rfl
  | m + 1, i, [], h, hl => by simp at hl
  | m + 1, i, x :: xs, h, hl => by
    have h0 := h 0 (by omega)
    have hr := rdB_ok m (i + 1) xs (fun j hj => by have := h (j + 1) (by omega); rw [show i + (j + 1) = i + 1 + j by omega] at this; simpa using this) (by simpa using hl)
    show (opt (w.cell? (a.add i)) fun v => tI .u8 v fun x => opt (rdB w a m (i + 1)) fun l => some (UInt8.ofNat x.toNat :: l)) = _
    have h0 : w.cell? (a.add i) = some (.int .u8 x) := h0
    rw [h0, opt_some, tI_mk, hr, opt_some]; rfl
theorem strOf_ok {w : World} {A : Option Addr} {l : Nat} {xs : List Int} (h : Sl .u8 w A l xs) : strOf w A l = some (str xs) := by
  rcases h.2 with hn | ⟨a, rfl, hc⟩
  · subst hn
    have hl : l = 0 := h.1.symm
    subst hl
    cases A with
    | none => rfl
    | some a => rfl
  · show (opt (rdB w a l 0) fun l => some (⟨l.toArray⟩ : ByteArray)) = _
    rw [rdB_ok l 0 xs (fun j hj => by rw [Nat.zero_add]; exact hc j hj) h.1, opt_some]; rfl
theorem and_127 (z : Nat) (h : z < 2 ^ 64) : bits .and .u64 (z : Int) 127 = ((z % 128 : Nat) : Int) := by
  have hb : (BitVec.ofNat 64 z &&& BitVec.ofNat 64 127).toNat = z % 128 := by
    rw [BitVec.toNat_and, BitVec.toNat_ofNat, BitVec.toNat_ofNat, Nat.mod_eq_of_lt h]
    exact Nat.and_two_pow_sub_one_eq_mod z 7
  unfold bits
  simp only [IntKind.bits]
  show IntKind.u64.wrap (((BitVec.ofInt 64 (z : Int) &&& BitVec.ofInt 64 ((127 : Nat) : Int)).toNat : Nat) : Int) = _
  rw [BitVec.ofInt_natCast, BitVec.ofInt_natCast, hb]
  exact u64_in _ (by omega)
theorem byte_more' (x : Nat) (h : x < 2 ^ 64) : IntKind.u8.wrap (bits .or .u64 (bits .and .u64 (x : Int) 127) 128) = ((x % 128 + 128 : Nat) : Int) := by
  have := or64 (x := x % 128) (y := 1) (k := 7) (by omega) (by omega)
  rw [and_127 x h]
  have e : bits .or .u64 ((x % 128 : Nat) : Int) 128 = ((x % 128 + 128 : Nat) : Int) := this
  rw [e]
  exact u8_in _ (by omega)
theorem RPut_l0 {n : Nat} {w0 : World} : ∀ (k m x : Nat) (A : Option Addr) (c : Nat) (xs : List Int) (w : World), x < 2 ^ (7 * k + 7) → x < 2 ^ 64 → k < m → xs.length + k ≤ 2 ^ 39 →
    Own .u8 5 w w0.heap.size (.slice A xs.length c) xs → Kp w0 w →
    ∃ A' c' ys w' y, butteryref1_PutVar.l0 n m (x : Int) A xs.length c w = some ⟨.exit 0, [.int .u64 ((y : Nat) : Int), .slice A' ys.length c'], w'⟩ ∧ Own .u8 5 w' w0.heap.size (.slice A' ys.length c') ys ∧ Kp w0 w' ∧ y < 128 ∧ xs ++ enc x = ys ++ [(y : Int)] ∧ ys.length ≤ xs.length + k := by
  intro k
  induction k with
  | zero =>
    intro m x A c xs w hx h64 hm hl ho hk
    obtain ⟨m, rfl⟩ : ∃ m', m = m' + 1 := ⟨m - 1, by omega⟩
    have hx : x < 128 := by simpa using hx
    exact ⟨A, c, xs, w, x, by rw [butteryref1_PutVar.l0_succ, cF (by simp; omega)], ho, hk, hx, by rw [enc_small hx], by omega⟩
  | succ k ih =>
    intro m x A c xs w hx h64 hm hl ho hk
    obtain ⟨m, rfl⟩ : ∃ m', m = m' + 1 := ⟨m - 1, by omega⟩
    by_cases h128 : x < 128
    · exact ⟨A, c, xs, w, x, by rw [butteryref1_PutVar.l0_succ, cF (by simp; omega)], ho, hk, h128, by rw [enc_small h128], by omega⟩
    · obtain ⟨i8, hT⟩ := Crc.slT24
      have hlit : Own .u8 5 (w.alloc (.cells ([((x % 128 + 128 : Nat) : Int)].map (Value.int .u8)).toArray 5)) w.heap.size (.slice (some ⟨w.heap.size, 0, none⟩) 1 1) [((x % 128 + 128 : Nat) : Int)] := Own.lit w [((x % 128 + 128 : Nat) : Int)] (by simp [maxLen])
      have k1 : Kp w (w.alloc (.cells ([((x % 128 + 128 : Nat) : Int)].map (Value.int .u8)).toArray 5)) := (Kp.rfl' w).al _
      obtain ⟨v, w2, e2, o2, g2, b2⟩ := append_run (P := Try.prog) hT _ w0.heap.size 24 (ho.kp k1) hlit.sl.2 (fun h => by cases h) (by omega) (Nat.le_trans hk.size k1.size)
      obtain ⟨A', c', rfl⟩ := o2.slice
      have hx' : x / 128 < 2 ^ (7 * k + 7) := by
        have e : 2 ^ (7 * (k + 1) + 7) = 2 ^ (7 * k + 7) * 128 := by rw [show 7 * (k + 1) + 7 = 7 * k + 7 + 7 by omega, Nat.pow_add]
        rw [e] at hx
        omega
      obtain ⟨A2, c2, ys, w3, y, e3, o3, k3, hy, happ, hlen⟩ := ih m (x / 128) A' c' (xs ++ [((x % 128 + 128 : Nat) : Int)]) w2 hx' (by omega) (by omega) (by simp; omega) o2 ((hk.tr k1).gr g2 (fun b hb => (ho.lt b hb).1))
      refine ⟨A2, c2, ys, w3, y, ?_, o3, k3, hy, ?_, by simp at hlen; omega⟩
      · have e2' := fun (f : Value → World → Option Res) => e2 f
        have ee : ∀ z : Int, (w.alloc (.cells #[(.int .u8 z)] 5)) = w.alloc (.cells ([z].map (Value.int .u8)).toArray 5) := fun z => rfl
        rw [butteryref1_PutVar.l0_succ, cT (by simp; omega), byte_more' x h64, ee, e2', tL_mk, fdiv7, e3]
      · rw [enc_big h128, ← happ]; simp
theorem RPut_spec {n : Nat} (hn : 100 < n) {w : World} {B : Option Addr} {l d : Nat} {bs : List Int} (hb : Sl .u8 w B l bs) (hB : B = none → l = 0 ∧ d = 0) (hl : l ≤ 2 ^ 38) (x : Nat) (hx : x < 2 ^ 64) :
    ∃ A c w', butteryref1_PutVar n [.slice B l d, .int .u64 (x : Int)] w = some ([.slice A (bs ++ enc x).length c], w') ∧ Own .u8 5 w' w.heap.size (.slice A (bs ++ enc x).length c) (bs ++ enc x) ∧ Kp w w' := by
  obtain ⟨i8, hT⟩ := Crc.slT24
  have hbl := hb.1
  obtain ⟨v, w2, e2, o2, g2, b2⟩ := append_run (P := Try.prog) hT w w.heap.size 24 (Own.nil w _) hb hB (by simp; omega) (Nat.le_refl _)
  rw [List.nil_append] at o2
  obtain ⟨A', c', rfl⟩ := o2.slice
  obtain ⟨A2, c2, ys, w3, y, e3, o3, k3, hy, happ, hlen⟩ := RPut_l0 (n := n) (w0 := w) 9 n x A' c' bs w2 (by omega) hx (by omega) (by omega) o2 ((Kp.rfl' w).gr g2 (by simp [Value.ownBlock]))
  have hlit : Own .u8 5 (w3.alloc (.cells ([(y : Int)].map (Value.int .u8)).toArray 5)) w3.heap.size (.slice (some ⟨w3.heap.size, 0, none⟩) 1 1) [(y : Int)] := Own.lit w3 [(y : Int)] (by simp [maxLen])
  have k4 : Kp w3 (w3.alloc (.cells ([(y : Int)].map (Value.int .u8)).toArray 5)) := (Kp.rfl' w3).al _
  obtain ⟨v, w5, e5, o5, g5, b5⟩ := append_run (P := Try.prog) hT _ w.heap.size 24 (o3.kp k4) hlit.sl.2 (fun h => by cases h) (by omega) (Nat.le_trans k3.size k4.size)
  rw [← happ] at o5
  obtain ⟨A3, c3, rfl⟩ := o5.slice
  refine ⟨A3, c3, w5, ?_, o5, (k3.tr k4).gr g5 (fun b hb => (o3.lt b hb).1)⟩
  have e2' := fun (f : Value → World → Option Res) => e2 f
  have e5' := fun (f : Value → World → Option Res) => e5 f
  have ee : ∀ z : Int, (w3.alloc (.cells #[(.int .u8 z)] 5)) = w3.alloc (.cells ([z].map (Value.int .u8)).toArray 5) := fun z => rfl
  have hu : IntKind.u8.wrap (y : Int) = y := u8_in _ (by omega)
  rw [butteryref1_PutVar_eq, e2', tL_mk, e3, jb_exit, tC_mk, tI_mk, tC_mk, tL_mk, tN_mk, hu, ee, e5', tL_mk, fin_ret]
theorem RPutInt_spec {n : Nat} (hn : 100 < n) {w : World} {B : Option Addr} {l d : Nat} {bs : List Int} (hb : Sl .u8 w B l bs) (hB : B = none → l = 0 ∧ d = 0) (hl : l ≤ 2 ^ 38) (x : Int) (hx : -2 ^ 63 ≤ x ∧ x < 2 ^ 63) :
    ∃ A c w', butteryref1_PutInt n [.slice B l d, .int .i64 x] w = some ([.slice A (bs ++ enc (zz x)).length c], w') ∧ Own .u8 5 w' w.heap.size (.slice A (bs ++ enc (zz x)).length c) (bs ++ enc (zz x)) ∧ Kp w w' := by
  obtain ⟨A, c, w', h1, h2, h3⟩ := RPut_spec (n := n) hn hb hB hl (zz x) (zz_lt hx)
  refine ⟨A, c, w', ?_, h2, h3⟩
  rw [butteryref1_PutInt_eq]
  by_cases h : x < 0
  · rw [cT (by simpa using h), zz_neg ⟨hx.1, h⟩, h1, cl1L, fin_ret]
  · rw [cF (by simpa using h), zz_pos ⟨by omega, hx.2⟩, h1, cl1L, fin_ret]
theorem cS {α : Type} {xs : List UInt8} {a b : α} : cond (!(xs == xs)) a b = b := cF (by simp)
theorem puts_ok {n : Nat} (hn : 2 ^ 59 < n) (A : Option Addr) (l c : Nat) (xs : List Int) (x : Nat) (y : Int) (w : World) (hs : Sl .u8 w A l xs) (hA : A = none → l = 0 ∧ c = 0) (hb : ∀ x ∈ xs, 0 ≤ x ∧ x ≤ 255) (hx : x < 2 ^ 64) (hy : -2 ^ 63 ≤ y ∧ y < 2 ^ 63) :
    ∃ w', butterylaw2_VarintPuts n [.slice A l c, .int .u64 (x : Int), .int .i64 y] w = some ([.bool true], w') ∧ Kp w w' := by
  obtain ⟨w2, h1, k2⟩ := alive_ok hn w
  rw [butterylaw2_VarintPuts_eq, h1, cl1B, cF (x := !true) rfl]
  by_cases g1 : (l : Int) > 200
  · exact ⟨w2, by rw [cT (by simpa using g1), fin_ret], k2⟩
  rw [cF (by simpa using g1)]
  have hlen := hs.1
  obtain ⟨i8, hT⟩ := Crc.slT24
  obtain ⟨v, w3, e3, o3, g3, _⟩ := append_run (P := Try.prog) hT w2 w2.heap.size 24 (Own.nil w2 _) (hs.kp k2) hA (by simp; omega) (Nat.le_refl _)
  rw [List.nil_append] at o3
  obtain ⟨A', c', rfl⟩ := o3.slice
  have k3 : Kp w w3 := k2.gr g3 (by simp [Value.ownBlock])
  obtain ⟨B, d, w4, e4, o4, k4⟩ := Put_spec (n := n) (by omega) o3.sl.2 (own_none o3) (by omega) x hx
  have k4' := k3.tr k4
  obtain ⟨v, w5, e5, o5, g5, _⟩ := append_run (P := Try.prog) hT w4 w4.heap.size 24 (Own.nil w4 _) (hs.kp k4') hA (by simp; omega) (Nat.le_refl _)
  rw [List.nil_append] at o5
  obtain ⟨A5, c5, rfl⟩ := o5.slice
  have k5 : Kp w4 w5 := (Kp.rfl' w4).gr g5 (by simp [Value.ownBlock])
  obtain ⟨C, d6, w6, e6, o6, k6⟩ := PutInt_spec (n := n) (by omega) o5.sl.2 (own_none o5) (by omega) y hy
  have k6' := (k4'.tr k5).tr k6
  obtain ⟨D, d7, w7, e7, o7, k7⟩ := RPut_spec (n := n) (w := w6.drew) (d := c) (by omega) (hs.kp k6'.dr) hA (by omega) x hx
  have k7' : Kp w w7 := k6'.dr.tr k7
  have q7 : Kp w6 w7 := (Kp.rfl' w6).dr.tr k7
  obtain ⟨E, d8, w8, e8, o8, k8⟩ := RPutInt_spec (n := n) (d := c) (by omega) (hs.kp k7') hA (by omega) y hy
  have k8' := k7'.tr k8
  -- what the strings are
  have t4 : ∀ w', Kp w6 w' → Sl .u8 w' B (xs ++ enc x).length (xs ++ enc x) := fun w' k => ((o4.kp k5).kp k6).kp k |>.sl.2
  have t6 : ∀ w', Kp w6 w' → Sl .u8 w' C (xs ++ enc (zz y)).length (xs ++ enc (zz y)) := fun w' k => (o6.kp k).sl.2
  have q8 : Kp w6 w8 := q7.tr k8
  have hel := enc_len 9 x (by omega)
  have hel' := enc_len 9 (zz y) (by have := zz_lt hy; omega)
  have hbx : ∀ z ∈ xs ++ enc x, 0 ≤ z ∧ z ≤ 255 := fun z hz => by
    rcases List.mem_append.1 hz with h | h
    · exact hb z h
    · exact enc_bytes 9 x (by omega) z h
  have hby : ∀ z ∈ xs ++ enc (zz y), 0 ≤ z ∧ z ≤ 255 := fun z hz => by
    rcases List.mem_append.1 hz with h | h
    · exact hb z h
    · exact enc_bytes 9 (zz y) (by have := zz_lt hy; omega) z h
  have e9 := Get_spec (n := n) hn (t4 w8 q8) hbx (by simp; omega) (own_cap o4) (l : Int)
  have e10 := GetInt_spec (n := n) hn (t6 w8 q8) hby (by simp; omega) (own_cap o6) (l : Int)
  have g9 : getR (xs ++ enc x) (l : Int) = ((x : Int), (((xs ++ enc x).length : Nat) : Int), 0) := by
    have := getR_enc xs [] x hx
    rw [List.append_nil, hlen] at this
    rw [this, List.length_append, hlen]
  have g10 : getI (xs ++ enc (zz y)) (l : Int) = (y, (((xs ++ enc (zz y)).length : Nat) : Int), 0) := by
    have := getI_enc xs [] y hy
    rw [List.append_nil, hlen] at this
    rw [this, List.length_append, hlen]
  have e3' := fun (f : Value → World → Option Res) => e3 f
  have e5' := fun (f : Value → World → Option Res) => e5 f
  refine ⟨w8, ?_, k8'⟩
  rw [e3', tL_mk, e4, cl1L, e5', tL_mk, e6, cl1L, strOf_ok (t4 w6.drew (Kp.rfl' w6).dr), opt_some, e7, cl1L, strOf_ok (t4 w7 q7), opt_some, ck_self, strOf_ok o7.sl.2, opt_some, cS,
    strOf_ok (t6 w7 q7), opt_some, e8, cl1L, strOf_ok (t6 w8 q8), opt_some, ck_self, strOf_ok o8.sl.2, opt_some, cS, e9, clG, e10, clI, g9, g10, num_spec, cl1I, cE rfl, cE rfl, cE rfl, num_spec, cl1I, cE rfl, cE rfl, beq_self_eq_true, fin_ret]
end Go.Proofs.Ytfbbdokmddjfkaa.Var
