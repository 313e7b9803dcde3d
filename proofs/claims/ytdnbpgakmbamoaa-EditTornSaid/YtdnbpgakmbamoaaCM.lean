/- Rows of bytes: which is first. -/
import Derived.Test.YtdnbpgakmbamoaaGE2
import Derived.Test.YtdnbpgakmbamoaaM8
namespace Go.Proofs.Ytdnbpgakmbamoaa.Cm
open Go Big Go.RowKit
set_option linter.unusedVariables false
set_option linter.unusedSimpArgs false
def cmpB : List Int → List Int → Int
  | [], [] => 0
  | [], _ :: _ => -1
  | _ :: _, [] => 1
  | a :: p, b :: q => if a < b then -1 else if b < a then 1 else cmpB p q
abbrev Bytes (xs : List Int) : Prop := ∀ x ∈ xs, (Lit.int .u8 x).wf = true
theorem cmpB_eq : ∀ {xs ys : List Int}, Bytes xs → Bytes ys → Lib.compareBytes (xs.map fun (x : Int) => UInt8.ofNat x.toNat) (ys.map fun (x : Int) => UInt8.ofNat x.toNat) = cmpB xs ys
  | [], [], _, _ => rfl
  | [], y :: ys, _, _ => rfl
  | x :: xs, [], _, _ => rfl
  | x :: xs, y :: ys, hx, hy => by
    have h1 := u8wf (hx x List.mem_cons_self)
    have h2 := u8wf (hy y List.mem_cons_self)
    have ih := cmpB_eq (fun z hz => hx z (List.mem_cons_of_mem _ hz)) (fun z hz => hy z (List.mem_cons_of_mem _ hz))
    have e1 : (UInt8.ofNat x.toNat < UInt8.ofNat y.toNat) ↔ x < y := by rw [UInt8.lt_iff_toNat_lt, UInt8.toNat_ofNat', UInt8.toNat_ofNat']; omega
    have e2 : (UInt8.ofNat y.toNat < UInt8.ofNat x.toNat) ↔ y < x := by rw [UInt8.lt_iff_toNat_lt, UInt8.toNat_ofNat', UInt8.toNat_ofNat']; omega
    simp only [List.map_cons, Lib.compareBytes, cmpB, e1, e2, ih]
section
variable {n : Nat} {w : World} {A B : Option Addr} {l c m d : Nat} {xs ys : List Int}
theorem Compare_bytes (hx : Bv .u8 w A l c xs) (hy : Bv .u8 w B m d ys) : bytes_Compare n [.slice A l c, .slice B m d] w = some ([.int .i64 (cmpB xs ys)], w) := by
  rw [bytes_Compare_eq]
  have e : bytealg_Compare n [.slice A l c, .slice B m d] w = some ([.int .i64 (cmpB xs ys)], w) := by
    show (opt (strOf w A l) fun s => opt (strOf w B m) fun t => some ([Value.int .i64 (Lib.compareBytes s.data.toList t.data.toList)], w)) = _
    rw [strOf_ok hx.sl, opt_some, strOf_ok hy.sl, opt_some, ← ByteArray.toList_eq, ← ByteArray.toList_eq, str_toList, str_toList, cmpB_eq hx.rng hy.rng]
  rw [e, cl1I, fin_ret]
theorem CompareBytes_l0 {xs ys : List Int} (hx : Bv .u8 w A l c xs) (hy : Bv .u8 w B m d ys) {w0 : World} (n : Nat) : ∀ (q i j : Nat) (w' : World), i + q = l → q < j → i ≤ m → Kp w w' → (∀ r : Int, cmpB (xs.drop i) (ys.drop i) = r → cmpB xs ys = r) → l < 2 ^ 62 →
    Rt (butteryref1_CompareBytes.l0 n j A l c B m d (i : Int) w') fun r => Kp w r.w ∧ (r.ex = .exit 0 ∧ r.vals = [.slice A l c, .slice B m d] ∧ cmpB xs ys = (if l < m then -1 else if m < l then 1 else 0) ∨ r.ex = .ret ∧ r.vals = [.int .i64 (cmpB xs ys)]) := by
  intro q
  have hxl := hx.len
  have hyl := hy.len
  induction q with
  | zero =>
    intro i j w' hi hj him hk hc hl
    obtain ⟨j, rfl⟩ : ∃ j', j = j' + 1 := ⟨j - 1, by omega⟩
    rw [butteryref1_CompareBytes.l0_succ]
    refine Rt.cDF (by omega) (Rt.some' ⟨hk, .inl ⟨rfl, rfl, ?_⟩⟩)
    apply hc
    rw [List.drop_of_length_le (by omega)]
    by_cases h : m = l
    · rw [List.drop_of_length_le (by omega), if_neg (by omega), if_neg (by omega)]; rfl
    · rw [List.drop_eq_getElem_cons (by omega), if_pos (by omega)]; rfl
  | succ q ih =>
    intro i j w' hi hj him hk hc hl
    obtain ⟨j, rfl⟩ : ∃ j', j = j' + 1 := ⟨j - 1, by omega⟩
    rw [butteryref1_CompareBytes.l0_succ]
    refine Rt.cDT (by omega) (Rt.cD (fun h => ?_) fun h => ?_)
    · have e1 : xs.drop i = xs.getD i 0 :: xs.drop (i + 1) := by rw [List.drop_eq_getElem_cons (by omega)]; simp [List.getD_eq_getElem?_getD, show i < xs.length by omega]
      have e2 : ys.drop i = ys.getD i 0 :: ys.drop (i + 1) := by rw [List.drop_eq_getElem_cons (by omega)]; simp [List.getD_eq_getElem?_getD, show i < ys.length by omega]
      have hk1 : Kp w w'.drew := hk.dr
      refine Rt.ix (hx.kp hk1).sl (by omega) (by omega) (Rt.ix (hy.kp hk1).sl (by omega) (by omega) (Rt.cN (fun he => ?_) fun he => ?_))
      · rw [Go.IntWalk.i64_in _ (by omega), show ((i : Int) + 1) = ((i + 1 : Nat) : Int) by omega]
        refine ih (i + 1) j _ (by omega) (by omega) (by omega) hk1 (fun r hr => hc r ?_) hl
        rw [e1, e2]
        simp only [Int.toNat_natCast] at he
        simp only [cmpB, he, Int.lt_irrefl, if_false]
        exact hr
      · have hk2 : Kp w w'.drew.drew := hk1.dr
        simp only [Int.toNat_natCast] at he
        refine Rt.ix (hx.kp hk2).sl (by omega) (by omega) (Rt.ix (hy.kp hk2).sl (by omega) (by omega) (Rt.cD (fun hl => ?_) fun hl => ?_))
        · simp only [Int.toNat_natCast] at hl
          refine Rt.some' ⟨hk2, .inr ⟨rfl, ?_⟩⟩
          rw [hc (-1) (by rw [e1, e2]; simp only [cmpB]; rw [if_pos hl])]
        · simp only [Int.toNat_natCast] at hl
          refine Rt.some' ⟨hk2, .inr ⟨rfl, ?_⟩⟩
          rw [hc 1 (by rw [e1, e2]; simp only [cmpB]; rw [if_neg hl, if_pos (by omega)])]
    · refine Rt.some' ⟨hk, .inl ⟨rfl, rfl, ?_⟩⟩
      apply hc
      rw [List.drop_of_length_le (l := ys) (by omega), List.drop_eq_getElem_cons (by omega), if_neg (by omega), if_pos (by omega)]; rfl
theorem CompareBytes_spec {xs ys : List Int} (hx : Bv .u8 w A l c xs) (hy : Bv .u8 w B m d ys) (hn : l < n) (hl : l < 2 ^ 62) : Rt (butteryref1_CompareBytes n [.slice A l c, .slice B m d] w) (RI .i64 (cmpB xs ys) w) := by
  rw [butteryref1_CompareBytes_eq]
  refine Rt.fin (Rt.jb (Rt.mono (CompareBytes_l0 (w0 := w) hx hy n l 0 n w (by omega) (by omega) (Nat.zero_le _) (Kp.rfl' w) (fun r h => h) hl) ?_))
  rintro ⟨ex, vs, w1⟩ ⟨k1, ⟨h1, h2, h4⟩ | ⟨h1, h2⟩⟩
  · dsimp only at h1 h2 k1
    subst h1 h2
    refine .inl ⟨.inr rfl, ?_⟩
    (repeat (first | (with_reducible (first | refine Rt.fin ?_ | refine Rt.tL ?_ | refine Rt.tI ?_ | refine Rt.tB ?_ | refine Rt.tS ?_ | refine Rt.tP ?_ | refine Rt.tD ?_ | refine Rt.tM ?_ | refine Rt.tC ?_ | refine Rt.tN ?_ | refine Rt.tA ?_ | refine Rt.tG ?_ | refine Rt.tF ?_ | refine Rt.os ?_ | refine Rt.clS ?_ | refine Rt.jmN ?_ | refine Rt.jbN ?_ | refine Rt.jbE ?_)) | ((with_reducible (first | apply Rt.ld0 | apply Rt.ld1 | apply Rt.ld2 | apply Rt.ld3 | apply Rt.ld4 | apply Rt.ld5)); first | assumption | exact Lc.kp (by assumption) (by assumption)) | ((with_reducible apply Rt.ol); first | assumption | exact cell_kp (by assumption) (by assumption)) | ((with_reducible apply Rt.ckR); focus ((repeat (first | (with_reducible (first | refine Rt.fin ?_ | refine Rt.tL ?_ | refine Rt.tI ?_ | refine Rt.tB ?_ | refine Rt.tS ?_ | refine Rt.tP ?_ | refine Rt.tD ?_ | refine Rt.tM ?_ | refine Rt.tC ?_ | refine Rt.tN ?_ | refine Rt.tA ?_ | refine Rt.tG ?_ | refine Rt.tF ?_ | refine Rt.os ?_ | refine Rt.clS ?_ | refine Rt.jmN ?_ | refine Rt.jbN ?_ | refine Rt.jbE ?_)) | ((with_reducible (first | apply Rt.ld0 | apply Rt.ld1 | apply Rt.ld2 | apply Rt.ld3 | apply Rt.ld4 | apply Rt.ld5)); first | assumption | exact Lc.kp (by assumption) (by assumption)) | ((with_reducible apply Rt.ol); first | assumption | exact cell_kp (by assumption) (by assumption)))); exact Rt.some' rfl))))
    refine Rt.cD (fun h => ?_) fun h => ?_
    · exact Rt.endI (by rw [h4, if_pos (by omega)]) k1
    · refine Rt.cD (fun h => ?_) fun h => ?_
      · exact Rt.endI (by rw [h4, if_neg (by omega), if_pos (by omega)]) k1
      · exact Rt.endI (by rw [h4, if_neg (by omega), if_neg (by omega)]) k1
  · dsimp only at h1 h2 k1
    subst h1 h2
    exact .inr ⟨rfl, rfl, w1, rfl, k1⟩
end
end Go.Proofs.Ytdnbpgakmbamoaa.Cm
