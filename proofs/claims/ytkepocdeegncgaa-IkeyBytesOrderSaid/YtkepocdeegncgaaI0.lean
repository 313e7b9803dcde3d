/- Keys with numbers: what the functions of package ikey compute. -/
import Derived.Test.YtkepocdeegncgaaGI
import Derived.Test.YtkepocdeegncgaaM4
namespace Go.Proofs.Ytkepocdeegncgaa.Ik
open Go Big Go.RowKit
set_option linter.unusedVariables false
set_option linter.unusedSimpArgs false
theorem slB : ∃ i, SlT Try.prog 23 5 .u8 i := slT (by kernel_rfl)
theorem conv : ConvB Try.prog 23 := fun a l c w => by kernel_rfl
def cmpB : List Int → List Int → Int
  | [], [] => 0
  | [], _ :: _ => -1
  | _ :: _, [] => 1
  | a :: p, b :: q => if a < b then -1 else if b < a then 1 else cmpB p q
def cmpN (a b : Int) : Int := if a < b then -1 else if b < a then 1 else 0
structure Key where
  key : List Int
  seq : Int
  kind : Int
def cmpK (a b : Key) : Int := if cmpB a.key b.key ≠ 0 then cmpB a.key b.key else if cmpN b.seq a.seq ≠ 0 then cmpN b.seq a.seq else cmpN b.kind a.kind
abbrev Bytes (xs : List Int) : Prop := ∀ x ∈ xs, (Lit.int .u8 x).wf = true
theorem cmpB_eq : ∀ {xs ys : List Int}, Bytes xs → Bytes ys → Lib.compareBytes (xs.map fun (x : Int) => UInt8.ofNat x.toNat) (ys.map fun (x : Int) => UInt8.ofNat x.toNat) = cmpB xs ys
  | [], [], _, _ => rfl
  | [], y :: ys, _, _ => rfl
  | x :: xs, [], _, _ => rfl
  | x :: xs, y :: ys, hx, hy => by
    have h1 := u8wf (hx x List.mem_cons_self)
    have h2 := u8wf (hy y List.mem_cons_self)
    have ih := cmpB_eq (fun z hz => hx z (List.mem_cons_of_mem _ hz)) (fun z hz => hy z (List.mem_cons_of_mem _ hz))
    have e1 : (UInt8.ofNat x.toNat < UInt8.ofNat y.toNat) ↔ x < y := by rw [UInt8.lt_iff_toNat_lt, UInt8.toNat_ofNat', UInt8.toNat_ofNat']; omega
    have e2 : (UInt8.ofNat y.toNat < UInt8.ofNat x.toNat) ↔ y < x := by rw [UInt8.lt_iff_toNat_lt, UInt8.toNat_ofNat', UInt8.toNat_ofNat']; omega
    simp only [List.map_cons, Lib.compareBytes, cmpB, e1, e2, ih]
section
variable {n : Nat} {w : World} {A B : Option Addr} {l c m d : Nat} {xs ys : List Int}
theorem Compare_bytes (hx : Bv .u8 w A l c xs) (hy : Bv .u8 w B m d ys) : bytes_Compare n [.slice A l c, .slice B m d] w = some ([.int .i64 (cmpB xs ys)], w) := by
  rw [bytes_Compare_eq]
  have e : bytealg_Compare n [.slice A l c, .slice B m d] w = some ([.int .i64 (cmpB xs ys)], w) := by
    show (opt (strOf w A l) fun s => opt (strOf w B m) fun t => some ([Value.int .i64 (Lib.compareBytes s.data.toList t.data.toList)], w)) = _
    rw [strOf_ok hx.sl, opt_some, strOf_ok hy.sl, opt_some, ← ByteArray.toList_eq, ← ByteArray.toList_eq, str_toList, str_toList, cmpB_eq hx.rng hy.rng]
  rw [e, cl1I, fin_ret]
theorem Compare_u64 (a b : Int) : cmp_Compare_uint64 n [.int .u64 a, .int .u64 b] w = some ([.int .i64 (cmpN a b)], w) := by
  rw [cmp_Compare_uint64_eq, cmp_isNaN_uint64_eq, fin_ret, cl1B, cmp_isNaN_uint64_eq, fin_ret, cl1B, bne_self_eq_false, bne_self_eq_false, cond_false, cond_false]
  unfold cmpN
  by_cases h1 : a < b
  · rw [cT (by simpa using h1), if_pos h1, fin_ret]
  · by_cases h2 : b < a
    · rw [cF (by simpa using h1), cT (by simpa using h2), if_neg h1, if_pos h2, fin_ret]
    · rw [cF (by simpa using h1), cF (by simpa using h2), if_neg h1, if_neg h2, fin_ret]
theorem Compare_int (a b : Int) : cmp_Compare_int n [.int .i64 a, .int .i64 b] w = some ([.int .i64 (cmpN a b)], w) := by
  rw [cmp_Compare_int_eq, cmp_isNaN_int_eq, fin_ret, cl1B, cmp_isNaN_int_eq, fin_ret, cl1B, bne_self_eq_false, bne_self_eq_false, cond_false, cond_false]
  unfold cmpN
  by_cases h1 : a < b
  · rw [cT (by simpa using h1), if_pos h1, fin_ret]
  · by_cases h2 : b < a
    · rw [cF (by simpa using h1), cT (by simpa using h2), if_neg h1, if_pos h2, fin_ret]
    · rw [cF (by simpa using h1), cF (by simpa using h2), if_neg h1, if_neg h2, fin_ret]
theorem Or3 (hn : 10 < n) {x y z : Int} (h : Sl .i64 w A 3 [x, y, z]) : cmp_Or_int n [.slice A 3 c] w = some ([.int .i64 (if x ≠ 0 then x else if y ≠ 0 then y else z)], w) := by
  have key : Rt (cmp_Or_int n [.slice A 3 c] w) fun r => r = ([.int .i64 (if x ≠ 0 then x else if y ≠ 0 then y else z)], w) := by
    obtain ⟨n, rfl⟩ : ∃ k, n = k + 4 := ⟨n - 4, by omega⟩
    rw [cmp_Or_int_eq]
    refine Rt.fin (Rt.jb ?_)
    rw [show cmp_Or_int.l0 (n + 4) (n + 4) = cmp_Or_int.l0 (n + 4) (n + 3 + 1) from rfl, cmp_Or_int.l0_succ]
    refine Rt.cDT (by decide) (Rt.ix h (by decide) (by decide) (Rt.cN (fun hx => ?_) fun hx => ?_))
    · have hx : x = 0 := hx
      rw [show n + 3 = n + 2 + 1 from rfl, cmp_Or_int.l0_succ]
      refine Rt.cDT (by decide) (Rt.ix h (by decide) (by decide) (Rt.cN (fun hy => ?_) fun hy => ?_))
      · have hy : y = 0 := hy
        rw [show n + 2 = n + 1 + 1 from rfl, cmp_Or_int.l0_succ]
        refine Rt.cDT (by decide) (Rt.ix h (by decide) (by decide) (Rt.cN (fun hz => ?_) fun hz => ?_))
        · have hz : z = 0 := hz
          rw [cmp_Or_int.l0_succ]
          refine Rt.cDF (by decide) (Rt.some' (.inl ⟨.inr rfl, ?_⟩))
          repeat (first | (with_reducible refine Rt.fin ?_) | (with_reducible refine Rt.tL ?_) | (with_reducible refine Rt.tI ?_) | (with_reducible refine Rt.tB ?_) | (with_reducible refine Rt.tS ?_) | (with_reducible refine Rt.tP ?_) | (with_reducible refine Rt.tD ?_) | (with_reducible refine Rt.tM ?_) | (with_reducible refine Rt.tC ?_) | (with_reducible refine Rt.tN ?_) | (with_reducible refine Rt.tA ?_) | (with_reducible refine Rt.tG ?_) | (with_reducible refine Rt.tF ?_) | (with_reducible refine Rt.os ?_) | (with_reducible refine Rt.clS ?_) | (with_reducible refine Rt.jmN ?_) | (with_reducible refine Rt.jbN ?_) | (with_reducible refine Rt.jbE ?_) | ((with_reducible apply Rt.ld0); first | assumption | exact Lc.kp (by assumption) (by assumption)) | ((with_reducible apply Rt.ld1); first | assumption | exact Lc.kp (by assumption) (by assumption)) | ((with_reducible apply Rt.ld2); first | assumption | exact Lc.kp (by assumption) (by assumption)) | ((with_reducible apply Rt.ld3); first | assumption | exact Lc.kp (by assumption) (by assumption)) | ((with_reducible apply Rt.ld4); first | assumption | exact Lc.kp (by assumption) (by assumption)) | ((with_reducible apply Rt.ckR); focus (repeat (first | (with_reducible refine Rt.fin ?_) | (with_reducible refine Rt.tL ?_) | (with_reducible refine Rt.tI ?_) | (with_reducible refine Rt.tB ?_) | (with_reducible refine Rt.tS ?_) | (with_reducible refine Rt.tP ?_) | (with_reducible refine Rt.tD ?_) | (with_reducible refine Rt.tM ?_) | (with_reducible refine Rt.tC ?_) | (with_reducible refine Rt.tN ?_) | (with_reducible refine Rt.tA ?_) | (with_reducible refine Rt.tG ?_) | (with_reducible refine Rt.tF ?_) | (with_reducible refine Rt.os ?_) | (with_reducible refine Rt.clS ?_) | (with_reducible refine Rt.jmN ?_) | (with_reducible refine Rt.jbN ?_) | (with_reducible refine Rt.jbE ?_) | ((with_reducible apply Rt.ld0); first | assumption | exact Lc.kp (by assumption) (by assumption)) | ((with_reducible apply Rt.ld1); first | assumption | exact Lc.kp (by assumption) (by assumption)) | ((with_reducible apply Rt.ld2); first | assumption | exact Lc.kp (by assumption) (by assumption)) | ((with_reducible apply Rt.ld3); first | assumption | exact Lc.kp (by assumption) (by assumption)) | ((with_reducible apply Rt.ld4); first | assumption | exact Lc.kp (by assumption) (by assumption))); exact Rt.some' rfl)))
          exact Rt.some' ⟨rfl, by rw [hx, hy, hz]; rfl⟩
        · have hz : z ≠ 0 := hz
          exact Rt.some' (.inr ⟨rfl, rfl, by rw [hx, hy]; rfl⟩)
      · have hy : y ≠ 0 := hy
        exact Rt.some' (.inr ⟨rfl, rfl, by rw [if_neg (by simpa using hx), if_pos hy]; rfl⟩)
    · have hx : x ≠ 0 := hx
      exact Rt.some' (.inr ⟨rfl, rfl, by rw [if_pos hx]; rfl⟩)
  obtain ⟨_, e, rfl⟩ := key
  exact e
end
end Go.Proofs.Ytkepocdeegncgaa.Ik
