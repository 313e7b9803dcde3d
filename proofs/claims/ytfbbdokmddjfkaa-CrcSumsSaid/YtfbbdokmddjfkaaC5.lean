/- CrcSums: the reference's functions, and what the law comes to. -/
import Derived.Test.YtfbbdokmddjfkaaC3
namespace Go.Proofs.Ytfbbdokmddjfkaa.Crc
open Go Big Go.RowKit Go.IntWalk
set_option linter.unusedVariables false
set_option linter.unusedSimpArgs false
theorem step_l0 {n : Nat} {w : World} : ∀ (k j m : Nat) (x : Int), j + k = 8 → k < m → butteryref1_step.l0 n m x (j : Int) w = some ⟨.exit 0, [.int .u32 (many k x)], w⟩ := by
  intro k
  induction k with
  | zero =>
    intro j m x hj hm
    obtain ⟨m, rfl⟩ : ∃ m', m = m' + 1 := ⟨m - 1, by omega⟩
    rw [butteryref1_step.l0_succ, cF (by simp; omega)]
    rfl
  | succ k ih =>
    intro j m x hj hm
    obtain ⟨m, rfl⟩ : ∃ m', m = m' + 1 := ⟨m - 1, by omega⟩
    rw [butteryref1_step.l0_succ, cT (by simp; omega)]
    have hi : IntKind.i64.wrap ((j : Int) + 1) = ((j + 1 : Nat) : Int) := by rw [i64_in _ (by omega)]; omega
    have e := fun x => ih (j + 1) m x (by omega) (by omega)
    unfold many one
    cases hb : ((bits .and .u32 x 1) == 1)
    · rw [cF (x := false) rfl, jb_norm, tC_mk, tI_mk, tC_mk, tI_mk, tN_mk, hi, cF (x := false) rfl]; exact e _
    · rw [cT (x := true) rfl, jb_norm, tC_mk, tI_mk, tC_mk, tI_mk, tN_mk, hi, cT (x := true) rfl]; exact e _
theorem step_spec {n : Nat} (hn : 300 ≤ n) (x : Int) (w : World) : butteryref1_step n [.int .u32 x] w = some ([.int .u32 (many 8 x)], w) := by
  have h : butteryref1_step.l0 n n x 0 w = _ := step_l0 8 0 n x rfl (by omega)
  rw [butteryref1_step_eq, h, jb_exit, tC_mk, tI_mk, tN_mk, fin_ret]
theorem RTable_l0 {n : Nat} (hn : 300 ≤ n) {w0 : World} : ∀ (k j m : Nat) (A : Option Addr) (c : Nat) (w : World), j + k = 256 → k < m →
    Own .u32 37 w w0.heap.size (.slice A j c) ((List.range j).map fun (i : Nat) => many 8 (i : Int)) → Kp w0 w →
    ∃ A' c' w', butteryref1_Table.l0 n m A j c (j : Int) w = some ⟨.exit 0, [.slice A' 256 c'], w'⟩ ∧ Own .u32 37 w' w0.heap.size (.slice A' 256 c') tab ∧ Kp w0 w' := by
  intro k
  induction k with
  | zero =>
    intro j m A c w hj hm ho hk
    obtain ⟨m, rfl⟩ : ∃ m', m = m' + 1 := ⟨m - 1, by omega⟩
    obtain rfl : j = 256 := by omega
    exact ⟨A, c, w, by rw [butteryref1_Table.l0_succ, cF (by simp)], ho, hk⟩
  | succ k ih =>
    intro j m A c w hj hm ho hk
    obtain ⟨m, rfl⟩ : ∃ m', m = m' + 1 := ⟨m - 1, by omega⟩
    have hi : IntKind.i64.wrap ((j : Int) + 1) = ((j + 1 : Nat) : Int) := by rw [i64_in _ (by omega)]; omega
    have hu : IntKind.u32.wrap (j : Int) = j := u32_in _ (by omega)
    obtain ⟨i8, hT⟩ := slT34
    have hlit : Own .u32 37 (w.alloc (.cells ([many 8 (j : Int)].map (Value.int .u32)).toArray 37)) w.heap.size (.slice (some ⟨w.heap.size, 0, none⟩) 1 1) [many 8 (j : Int)] := Own.lit w [many 8 (j : Int)] (by simp [maxLen])
    have k1 : Kp w (w.alloc (.cells ([many 8 (j : Int)].map (Value.int .u32)).toArray 37)) := (Kp.rfl' w).al _
    obtain ⟨v, w2, e2, o2, g2, b2⟩ := append_run (P := Try.prog) hT _ w0.heap.size 34 (ho.kp k1) hlit.sl.2 (fun h => by cases h) (by simp; omega) (Nat.le_trans hk.size k1.size)
    obtain ⟨A', c', rfl⟩ := o2.slice
    have hl : ((List.range j).map (fun (i : Nat) => many 8 (i : Int)) ++ [many 8 (j : Int)]).length = j + 1 := by simp
    have hr : ((List.range j).map (fun (i : Nat) => many 8 (i : Int)) ++ [many 8 (j : Int)]) = (List.range (j + 1)).map (fun (i : Nat) => many 8 (i : Int)) := by rw [List.range_succ, List.map_append]; rfl
    rw [hl, hr] at o2
    rw [hl] at e2
    obtain ⟨A2, c2, w3, e3, o3, k3⟩ := ih (j + 1) m A' c' w2 (by omega) (by omega) o2 ((hk.tr k1).gr g2 (fun b hb => (ho.lt b hb).1))
    refine ⟨A2, c2, w3, ?_, o3, k3⟩
    rw [butteryref1_Table.l0_succ, cT (by simp; omega), step_spec hn, cl1I, hu]
    have e2' := fun (f : Value → World → Option Res) => e2 f
    have ee : (w.alloc (.cells #[(.int .u32 (many 8 (j : Int)))] 37)) = w.alloc (.cells ([many 8 (j : Int)].map (Value.int .u32)).toArray 37) := rfl
    rw [ee, e2', tL_mk, hi, e3]
theorem RTable_spec {n : Nat} (hn : 300 ≤ n) (w : World) : ∃ A c w', butteryref1_Table n [] w = some ([.slice A 256 c], w') ∧ Own .u32 37 w' w.heap.size (.slice A 256 c) tab ∧ Kp w w' := by
  obtain ⟨A, c, w', h1, h2, h3⟩ := RTable_l0 (n := n) hn (w0 := w) 256 0 n none 0 w rfl (by omega) (Own.nil w _) (Kp.rfl' w)
  have h1 : butteryref1_Table.l0 n n none 0 0 0 w = _ := h1
  exact ⟨A, c, w', by rw [butteryref1_Table_eq, h1, jb_exit, tC_mk, tL_mk, tN_mk, fin_ret], h2, h3⟩
theorem same_l0 {n : Nat} {w0 : World} {A B : Option Addr} {l ca cb : Nat} {xs : List Int} (hl : l < 2 ^ 40) (ha : Sl .u32 w0 A l xs) (hb : Sl .u32 w0 B l xs) : ∀ (k j m : Nat) (w : World), j + k = l → k < m → Kp w0 w →
    ∃ w', butterylaw3_same.l0 n m A l ca B l cb (j : Int) w = some ⟨.exit 0, [], w'⟩ ∧ Kp w0 w' := by
  intro k
  induction k with
  | zero =>
    intro j m w hj hm hk
    obtain ⟨m, rfl⟩ : ∃ m', m = m' + 1 := ⟨m - 1, by omega⟩
    exact ⟨w, by rw [butterylaw3_same.l0_succ, cF (by simp; omega)], hk⟩
  | succ k ih =>
    intro j m w hj hm hk
    obtain ⟨m, rfl⟩ : ∃ m', m = m' + 1 := ⟨m - 1, by omega⟩
    have hi : IntKind.i64.wrap ((j : Int) + 1) = ((j + 1 : Nat) : Int) := by rw [i64_in _ (by omega)]; omega
    obtain ⟨w', e, k'⟩ := ih (j + 1) m w.drew (by omega) (by omega) hk.dr
    refine ⟨w', ?_, k'⟩
    rw [butterylaw3_same.l0_succ, cT (by simp; omega), (ha.kp hk).ixd (by omega) (by omega), (hb.kp hk).ixd (by omega) (by omega), cF (by simp), hi, e]
theorem same_spec {n : Nat} (hn : 2 ^ 50 < n) {w : World} {A B : Option Addr} {l ca cb : Nat} {xs : List Int} (hl : l < 2 ^ 40) (ha : Sl .u32 w A l xs) (hb : Sl .u32 w B l xs) :
    ∃ w', butterylaw3_same n [.slice A l ca, .slice B l cb] w = some ([.bool true], w') ∧ Kp w w' := by
  obtain ⟨w', e, k⟩ := same_l0 (n := n) (ca := ca) (cb := cb) hl ha hb l 0 n w (by omega) (by omega) (Kp.rfl' w)
  have e : butterylaw3_same.l0 n n A l ca B l cb 0 w = _ := e
  exact ⟨w', by rw [butterylaw3_same_eq, cF (by simp), e, jb_exit, tN_mk, fin_ret], k⟩
theorem and255 (x : BitVec 32) (b : BitVec 8) : bits .and .u32 (bits .xor .u32 (I x) (IntKind.u32.wrap (J b))) 255 = I ((x.setWidth 8 ^^^ b).setWidth 32) := by
  have hb := b.isLt
  have e1 : IntKind.u32.wrap (J b) = I (b.setWidth 32) := by
    rw [u32_in (J b) (by show (0:Int) ≤ (b.toNat : Int) ∧ (b.toNat : Int) ≤ 4294967295; omega)]
    show (b.toNat : Int) = ((b.setWidth 32).toNat : Int)
    rw [BitVec.toNat_setWidth]; omega
  have e2 : (255 : Int) = I 255#32 := rfl
  rw [e1, xor32, e2, and32]
  congr 1
  apply BitVec.eq_of_toNat_eq
  rw [BitVec.toNat_and, BitVec.toNat_xor, BitVec.toNat_setWidth, BitVec.toNat_setWidth, BitVec.toNat_xor, BitVec.toNat_setWidth]
  have e3 : (255#32).toNat = 2 ^ 8 - 1 := rfl
  have h1 : (x.toNat ^^^ b.toNat) % 2 ^ 8 = x.toNat % 2 ^ 8 ^^^ b.toNat := by rw [Nat.xor_mod_two_pow, Nat.mod_eq_of_lt hb]
  have h2 : x.toNat % 2 ^ 8 ^^^ b.toNat < 2 ^ 8 := Nat.xor_lt_two_pow (Nat.mod_lt _ (by decide)) hb
  have h3 : (x.toNat % 2 ^ 8 ^^^ b.toNat) % 2 ^ 32 = x.toNat % 2 ^ 8 ^^^ b.toNat := Nat.mod_eq_of_lt (by omega)
  rw [e3, Nat.and_two_pow_sub_one_eq_mod, Nat.mod_eq_of_lt (show b.toNat < 2 ^ 32 by omega), h1, h3]
theorem Crc_l0 {n : Nat} (hn : 300 ≤ n) {w : World} {B : Option Addr} {l d : Nat} {bs : List (BitVec 8)} (hb : Sl .u8 w B l (bs.map J)) (hl : l < 2 ^ 40) :
    ∀ (k j m : Nat) (x : BitVec 32), j + k = l → k < m → butteryref1_Crc.l0 n m B l d (I x) (j : Int) w = some ⟨.exit 0, [.int .u32 (I (runB x (bs.drop j)))], w⟩ := by
  have hlen : bs.length = l := by have := hb.1; simpa using this
  intro k
  induction k with
  | zero =>
    intro j m x hj hm
    obtain ⟨m, rfl⟩ : ∃ m', m = m' + 1 := ⟨m - 1, by omega⟩
    rw [butteryref1_Crc.l0_succ, cF (by simp; omega), List.drop_of_length_le (by omega)]
    rfl
  | succ k ih =>
    intro j m x hj hm
    obtain ⟨m, rfl⟩ : ∃ m', m = m' + 1 := ⟨m - 1, by omega⟩
    have hi : IntKind.i64.wrap ((j : Int) + 1) = ((j + 1 : Nat) : Int) := by rw [i64_in _ (by omega)]; omega
    have hj' : j < bs.length := by omega
    have e1 : (bs.map J).getD j 0 = J bs[j] := by simp [List.getD_eq_getElem?_getD, hj']
    rw [butteryref1_Crc.l0_succ, cT (by simp; omega), hb.ix (by omega) (by omega), hi, Int.toNat_natCast, e1, and255, step_spec hn, cl1I, many_I, shr32, xor32, step_table, ih (j + 1) m _ (by omega) (by omega)]
    rw [List.drop_eq_getElem_cons hj', runB]
theorem Crc_spec {n : Nat} (hn : 2 ^ 50 < n) {w : World} {B : Option Addr} {l d : Nat} {b : List Int} (hb : Sl .u8 w B l b) (wb : ∀ x ∈ b, 0 ≤ x ∧ x ≤ 255) (hl : l < 2 ^ 40) :
    butteryref1_Crc n [.slice B l d] w = some ([.int .u32 (sum b)], w) := by
  obtain ⟨bs, rfl⟩ := bytes_of wb
  have h : butteryref1_Crc.l0 n n B l d 4294967295 0 w = _ := Crc_l0 (n := n) (d := d) (by omega) hb hl l 0 n top (by omega) (by omega)
  rw [butteryref1_Crc_eq, h, jb_exit, tC_mk, tI_mk, tN_mk, fin_ret, sum_I]
  have e : (4294967295 : Int) = I top := rfl
  rw [e, xor32]; rfl
theorem SumBy_l0 {n : Nat} {w : World} (A : Option Addr) (c : Nat) (t : List Int) (ht : Sl .u32 w A 256 t) (B : Option Addr) (l d : Nat) (b : List Int) (hb : Sl .u8 w B l b) (hl : l < 2 ^ 50) :
    ∀ (k j m : Nat) (x : Int), j + k = l → k < m → butteryref1_SumBy.l0 n m A 256 c B l d x (j : Int) w = some ⟨.exit 0, [.int .u32 (sumG t (b.drop j) x)], w⟩ := by
  intro k
  induction k with
  | zero =>
    intro j m x hj hm
    obtain ⟨m, rfl⟩ : ∃ m', m = m' + 1 := ⟨m - 1, by omega⟩
    rw [butteryref1_SumBy.l0_succ, cF (by simp; omega), List.drop_of_length_le (by rw [hb.1]; omega)]
    rfl
  | succ k ih =>
    intro j m x hj hm
    obtain ⟨m, rfl⟩ : ∃ m', m = m' + 1 := ⟨m - 1, by omega⟩
    have hi : IntKind.i64.wrap ((j : Int) + 1) = ((j + 1 : Nat) : Int) := by rw [i64_in _ (by omega)]; omega
    have hlen : j < b.length := by rw [hb.1]; omega
    rw [butteryref1_SumBy.l0_succ, cT (by simp; omega), hb.ix (by omega) (by omega), hi, Int.toNat_natCast, ht.ix (u8_range _ _ _).1 (u8_range _ _ _).2, ih (j + 1) m _ (by omega) (by omega)]
    rw [List.drop_eq_getElem_cons hlen, sumG]
    simp [List.getD_eq_getElem?_getD, hlen]
theorem sums_ok {n : Nat} (hn : 2 ^ 50 < n) (A B : Option Addr) (la ca lb cb : Nat) (ts bs : List Int) (w : World) (ha : Sl .u32 w A la ts) (hA : A = none → la = 0 ∧ ca = 0) (hb : Sl .u8 w B lb bs) (wb : ∀ x ∈ bs, 0 ≤ x ∧ x ≤ 255) :
    ∃ w', butterylaw3_CrcSums n [.slice A la ca, .slice B lb cb] w = some ([.bool true], w') ∧ Kp w w' := by
  obtain ⟨w2, h1, k2⟩ := alive_ok hn w
  rw [butterylaw3_CrcSums_eq, h1, cl1B, cF (x := !true) rfl]
  by_cases g1 : (lb : Int) > 500
  · exact ⟨w2, by rw [cT (by simpa using g1), fin_ret], k2⟩
  rw [cF (by simpa using g1)]
  by_cases g2 : (la : Int) > 300
  · exact ⟨w2, by rw [cT (by simpa using g2), fin_ret], k2⟩
  rw [cF (by simpa using g2)]
  obtain ⟨E, d, w3, e3, o3, k3⟩ := Table_spec (n := n) (by omega) w2
  obtain ⟨F, d', w4, e4, o4, k4⟩ := RTable_spec (n := n) (by omega) w3
  obtain ⟨w5, e5, k5⟩ := same_spec (n := n) hn (ca := d) (cb := d') (by omega) (o3.kp k4).sl.2 o4.sl.2
  have k6 := ((k2.tr k3).tr k4).tr k5
  rw [e3, cl1L, e4, cl1L, e5, cl1B, cT rfl, Sum_spec (by omega) hn E d tab ((o3.kp k4).kp k5).sl.2 B lb cb bs (hb.kp k6) (by omega), cl1I, Crc_spec hn (hb.kp k6) wb (by omega), cl1I]
  have es : bits .xor .u32 4294967295 (sumG tab bs 4294967295) = sum bs := rfl
  rw [es, cE rfl]
  obtain ⟨i8, hT⟩ := slT34
  obtain ⟨v, w7, e7, o7, g7, b7⟩ := append_run (P := Try.prog) hT w5 w5.heap.size 34 (Own.nil w5 _) (ha.kp k6) hA (by simp; omega) (Nat.le_refl _)
  rw [e7]
  simp only [List.nil_append] at o7
  obtain ⟨A', c', rfl⟩ := o7.slice
  have hla : ts.length = la := ha.1
  rw [hla] at o7 ⊢
  rw [tL_mk]
  have k7 : Kp w w7 := k6.gr g7 (by simp [Value.ownBlock])
  -- the last step
  have last : ∀ w8 : World, Kp w w8 → ∃ w', fin (cl (crc_Sum n [.slice none 0 0, .slice B lb cb] w8) fun vs50 w51 => tC vs50 fun v52 cs53 => tI .u32 v52 fun n54 => tN cs53 (cl (butteryref1_Crc n [(.slice B lb cb)] w51) fun vs55 w56 => tC vs55 fun v57 cs58 => tI .u32 v57 fun n59 => tN cs58 (some ⟨.ret, [(.bool (n54 == n59))], w56⟩))) = some ([.bool true], w') ∧ Kp w w' := fun w8 k8 => by
    obtain ⟨w9, e9, k9⟩ := Sum_other (n := n) (w := w8) (by omega) hn none 0 0 (by omega) B lb cb bs (hb.kp k8) (by omega)
    refine ⟨w9, ?_, k8.tr k9⟩
    rw [e9, cl1I, Crc_spec hn (hb.kp (k8.tr k9)) wb (by omega), cl1I, beq_self_eq_true, fin_ret]
  by_cases h256 : la = 256
  · subst h256
    have hSB : butteryref1_SumBy.l0 n n A 256 ca B lb cb 4294967295 0 w7 = _ := SumBy_l0 (n := n) A ca ts (ha.kp k7) B lb cb bs (hb.kp k7) (by omega) lb 0 n 4294967295 (by omega) (by omega)
    have eSB : butteryref1_SumBy n [.slice A 256 ca, .slice B lb cb] w7 = some ([.int .u32 (bits .xor .u32 4294967295 (sumG ts bs 4294967295))], w7) := by
      rw [butteryref1_SumBy_eq, cF (by simp), hSB, jb_exit, tC_mk, tI_mk, tN_mk, fin_ret]; rfl
    rw [Sum_spec (by omega) hn A' c' ts o7.sl.2 B lb cb bs (hb.kp k7) (by omega), cl1I, eSB, cl1I, cE rfl]
    exact last w7 k7
  · obtain ⟨w8, e8, k8⟩ := Sum_other (n := n) (w := w7) (by omega) hn A' la c' h256 B lb cb bs (hb.kp k7) (by omega)
    have k9 := k7.tr k8
    have eSB : butteryref1_SumBy n [.slice A la ca, .slice B lb cb] w8 = some ([.int .u32 (sum bs)], w8) := by
      rw [butteryref1_SumBy_eq, cT (by simp; omega), Crc_spec hn (hb.kp k9) wb (by omega), cl1I, fin_ret]
    rw [e8, cl1I, eSB, cl1I, cE rfl]
    exact last w8 k9
end Go.Proofs.Ytfbbdokmddjfkaa.Crc
