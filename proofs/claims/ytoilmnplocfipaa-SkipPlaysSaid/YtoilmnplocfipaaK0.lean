/- Keys with numbers: what the functions of package ikey compute, and that they order keys. -/
import Derived.Test.YtoilmnplocfipaaGK
import Derived.Test.YtoilmnplocfipaaMP
namespace Go.Proofs.Ytoilmnplocfipaa.Ik
open Go Big Go.RowKit
set_option linter.unusedVariables false
set_option linter.unusedSimpArgs false
theorem slB : ∃ i, SlT Try.prog 29 5 .u8 i := slT (by kernel_rfl)
theorem conv : ConvB Try.prog 29 := fun a l c w => by kernel_rfl
def cmpB : List Int → List Int → Int
  | [], [] => 0
  | [], _ :: _ => -1
  | _ :: _, [] => 1
  | a :: p, b :: q => if a < b then -1 else if b < a then 1 else cmpB p q
def cmpN (a b : Int) : Int := if a < b then -1 else if b < a then 1 else 0
structure Key where
  key : List Int
  seq : Int
  kind : Int
def cmpK (a b : Key) : Int := if cmpB a.key b.key ≠ 0 then cmpB a.key b.key else if cmpN b.seq a.seq ≠ 0 then cmpN b.seq a.seq else cmpN b.kind a.kind
abbrev Bytes (xs : List Int) : Prop := ∀ x ∈ xs, (Lit.int .u8 x).wf = true
theorem cmpB_eq : ∀ {xs ys : List Int}, Bytes xs → Bytes ys → Lib.compareBytes (xs.map fun (x : Int) => UInt8.ofNat x.toNat) (ys.map fun (x : Int) => UInt8.ofNat x.toNat) = cmpB xs ys
  | [], [], _, _ => rfl
  | [], y :: ys, _, _ => rfl
  | x :: xs, [], _, _ => rfl
  | x :: xs, y :: ys, hx, hy => by
    have h1 := u8wf (hx x List.mem_cons_self)
    have h2 := u8wf (hy y List.mem_cons_self)
    have ih := cmpB_eq (fun z hz => hx z (List.mem_cons_of_mem _ hz)) (fun z hz => hy z (List.mem_cons_of_mem _ hz))
    have e1 : (UInt8.ofNat x.toNat < UInt8.ofNat y.toNat) ↔ x < y := by rw [UInt8.lt_iff_toNat_lt, UInt8.toNat_ofNat', UInt8.toNat_ofNat']; omega
    have e2 : (UInt8.ofNat y.toNat < UInt8.ofNat x.toNat) ↔ y < x := by rw [UInt8.lt_iff_toNat_lt, UInt8.toNat_ofNat', UInt8.toNat_ofNat']; omega
    simp only [List.map_cons, Lib.compareBytes, cmpB, e1, e2, ih]
section
variable {n : Nat} {w : World} {A B : Option Addr} {l c m d : Nat} {xs ys : List Int}
theorem Compare_bytes (hx : Bv .u8 w A l c xs) (hy : Bv .u8 w B m d ys) : bytes_Compare n [.slice A l c, .slice B m d] w = some ([.int .i64 (cmpB xs ys)], w) := by
  rw [bytes_Compare_eq]
  have e : bytealg_Compare n [.slice A l c, .slice B m d] w = some ([.int .i64 (cmpB xs ys)], w) := by
    show (opt (strOf w A l) fun s => opt (strOf w B m) fun t => some ([Value.int .i64 (Lib.compareBytes s.data.toList t.data.toList)], w)) = _
    rw [strOf_ok hx.sl, opt_some, strOf_ok hy.sl, opt_some, ← ByteArray.toList_eq, ← ByteArray.toList_eq, str_toList, str_toList, cmpB_eq hx.rng hy.rng]
  rw [e, cl1I, fin_ret]
theorem Compare_u64 (a b : Int) : cmp_Compare_uint64 n [.int .u64 a, .int .u64 b] w = some ([.int .i64 (cmpN a b)], w) := by
  rw [cmp_Compare_uint64_eq, cmp_isNaN_uint64_eq, fin_ret, cl1B, cmp_isNaN_uint64_eq, fin_ret, cl1B, bne_self_eq_false, bne_self_eq_false, cond_false, cond_false]
  unfold cmpN
  by_cases h1 : a < b
  · rw [cT (by simpa using h1), if_pos h1, fin_ret]
  · by_cases h2 : b < a
    · rw [cF (by simpa using h1), cT (by simpa using h2), if_neg h1, if_pos h2, fin_ret]
    · rw [cF (by simpa using h1), cF (by simpa using h2), if_neg h1, if_neg h2, fin_ret]
theorem Compare_int (a b : Int) : cmp_Compare_int n [.int .i64 a, .int .i64 b] w = some ([.int .i64 (cmpN a b)], w) := by
  rw [cmp_Compare_int_eq, cmp_isNaN_int_eq, fin_ret, cl1B, cmp_isNaN_int_eq, fin_ret, cl1B, bne_self_eq_false, bne_self_eq_false, cond_false, cond_false]
  unfold cmpN
  by_cases h1 : a < b
  · rw [cT (by simpa using h1), if_pos h1, fin_ret]
  · by_cases h2 : b < a
    · rw [cF (by simpa using h1), cT (by simpa using h2), if_neg h1, if_pos h2, fin_ret]
    · rw [cF (by simpa using h1), cF (by simpa using h2), if_neg h1, if_neg h2, fin_ret]
theorem Or3 (hn : 10 < n) {x y z : Int} (h : Sl .i64 w A 3 [x, y, z]) : cmp_Or_int n [.slice A 3 c] w = some ([.int .i64 (if x ≠ 0 then x else if y ≠ 0 then y else z)], w) := by
  have key : Rt (cmp_Or_int n [.slice A 3 c] w) fun r => r = ([.int .i64 (if x ≠ 0 then x else if y ≠ 0 then y else z)], w) := by
    obtain ⟨n, rfl⟩ : ∃ k, n = k + 4 := ⟨n - 4, by omega⟩
    rw [cmp_Or_int_eq]
    refine Rt.fin (Rt.jb ?_)
    rw [show cmp_Or_int.l0 (n + 4) (n + 4) = cmp_Or_int.l0 (n + 4) (n + 3 + 1) from rfl, cmp_Or_int.l0_succ]
    refine Rt.cDT (by decide) (Rt.ix h (by decide) (by decide) (Rt.cN (fun hx => ?_) fun hx => ?_))
    · have hx : x = 0 := hx
      rw [show n + 3 = n + 2 + 1 from rfl, cmp_Or_int.l0_succ]
      refine Rt.cDT (by decide) (Rt.ix h (by decide) (by decide) (Rt.cN (fun hy => ?_) fun hy => ?_))
      · have hy : y = 0 := hy
        rw [show n + 2 = n + 1 + 1 from rfl, cmp_Or_int.l0_succ]
        refine Rt.cDT (by decide) (Rt.ix h (by decide) (by decide) (Rt.cN (fun hz => ?_) fun hz => ?_))
        · have hz : z = 0 := hz
          rw [cmp_Or_int.l0_succ]
          refine Rt.cDF (by decide) (Rt.some' (.inl ⟨.inr rfl, ?_⟩))
          (repeat (first | (with_reducible (first | refine Rt.fin ?_ | refine Rt.tL ?_ | refine Rt.tI ?_ | refine Rt.tB ?_ | refine Rt.tS ?_ | refine Rt.tP ?_ | refine Rt.tD ?_ | refine Rt.tM ?_ | refine Rt.tC ?_ | refine Rt.tN ?_ | refine Rt.tA ?_ | refine Rt.tG ?_ | refine Rt.tF ?_ | refine Rt.os ?_ | refine Rt.clS ?_ | refine Rt.jmN ?_ | refine Rt.jbN ?_ | refine Rt.jbE ?_)) | ((with_reducible (first | apply Rt.ld0 | apply Rt.ld1 | apply Rt.ld2 | apply Rt.ld3 | apply Rt.ld4 | apply Rt.ld5)); first | assumption | exact Lc.kp (by assumption) (by assumption)) | ((with_reducible apply Rt.ol); first | assumption | exact cell_kp (by assumption) (by assumption)) | ((with_reducible apply Rt.ckR); focus ((repeat (first | (with_reducible (first | refine Rt.fin ?_ | refine Rt.tL ?_ | refine Rt.tI ?_ | refine Rt.tB ?_ | refine Rt.tS ?_ | refine Rt.tP ?_ | refine Rt.tD ?_ | refine Rt.tM ?_ | refine Rt.tC ?_ | refine Rt.tN ?_ | refine Rt.tA ?_ | refine Rt.tG ?_ | refine Rt.tF ?_ | refine Rt.os ?_ | refine Rt.clS ?_ | refine Rt.jmN ?_ | refine Rt.jbN ?_ | refine Rt.jbE ?_)) | ((with_reducible (first | apply Rt.ld0 | apply Rt.ld1 | apply Rt.ld2 | apply Rt.ld3 | apply Rt.ld4 | apply Rt.ld5)); first | assumption | exact Lc.kp (by assumption) (by assumption)) | ((with_reducible apply Rt.ol); first | assumption | exact cell_kp (by assumption) (by assumption)))); exact Rt.some' rfl))))
          exact Rt.some' ⟨rfl, by rw [hx, hy, hz]; rfl⟩
        · have hz : z ≠ 0 := hz
          exact Rt.some' (.inr ⟨rfl, rfl, by rw [hx, hy]; rfl⟩)
      · have hy : y ≠ 0 := hy
        exact Rt.some' (.inr ⟨rfl, rfl, by rw [if_neg (by simpa using hx), if_pos hy]; rfl⟩)
    · have hx : x ≠ 0 := hx
      exact Rt.some' (.inr ⟨rfl, rfl, by rw [if_pos hx]; rfl⟩)
  obtain ⟨_, e, rfl⟩ := key
  exact e
end
/-- A key as a value. -/
structure KeyV (w : World) (A : Option Addr) (l c : Nat) (s k : Int) (x : Key) : Prop where
  key : Bv .u8 w A l c x.key
  seq : s = x.seq
  kind : k = x.kind
  rs : (Lit.int .u64 x.seq).wf = true
  rk : (Lit.int .i64 x.kind).wf = true
theorem KeyV.kp {w w' : World} {A : Option Addr} {l c : Nat} {s k : Int} {x : Key} (h : KeyV w A l c s k x) (hk : Kp w w') : KeyV w' A l c s k x := ⟨h.key.kp hk, h.seq, h.kind, h.rs, h.rk⟩
abbrev kv (A : Option Addr) (l c : Nat) (s k : Int) : Value := .agg #[.slice A l c, .int .u64 s, .int .i64 k]
def rightK (x : Key) : Prop := 1 ≤ x.key.length ∧ x.key.length ≤ 256 ∧ x.seq ≤ 72057594037927935 ∧ (x.kind = 0 ∨ x.kind = 1)
theorem cmpN_lt {a b : Int} (h : a < b) : cmpN a b = -1 := by rw [cmpN, if_pos h]
theorem cmpN_gt {a b : Int} (h : b < a) : cmpN a b = 1 := by rw [cmpN, if_neg (by omega), if_pos h]
theorem cmpN_eq {a b : Int} (h : a = b) : cmpN a b = 0 := by rw [cmpN, if_neg (by omega), if_neg (by omega)]
section
variable {n : Nat} {w : World} {A B : Option Addr} {l c m d : Nat} {s k s' k' : Int} {x y : Key}
theorem Compare_spec (hn : 10 < n) (hx : KeyV w A l c s k x) (hy : KeyV w B m d s' k' y) : Rt (ikey_Compare n [kv A l c s k, kv B m d s' k'] w) (RI .i64 (cmpK x y) w) := by
  rw [ikey_Compare_eq]
  refine Rt.fin (Rt.al fun w1 l1 k1 _ => Rt.al fun w2 l2 k2 _ => ?_)
  have l1 := l1.kp k2
  have k12 := (k1.tr k2).dr
  (repeat (first | (with_reducible (first | refine Rt.fin ?_ | refine Rt.tL ?_ | refine Rt.tI ?_ | refine Rt.tB ?_ | refine Rt.tS ?_ | refine Rt.tP ?_ | refine Rt.tD ?_ | refine Rt.tM ?_ | refine Rt.tC ?_ | refine Rt.tN ?_ | refine Rt.tA ?_ | refine Rt.tG ?_ | refine Rt.tF ?_ | refine Rt.os ?_ | refine Rt.clS ?_ | refine Rt.jmN ?_ | refine Rt.jbN ?_ | refine Rt.jbE ?_)) | ((with_reducible (first | apply Rt.ld0 | apply Rt.ld1 | apply Rt.ld2 | apply Rt.ld3 | apply Rt.ld4 | apply Rt.ld5)); first | assumption | exact Lc.kp (by assumption) (by assumption)) | ((with_reducible apply Rt.ol); first | assumption | exact cell_kp (by assumption) (by assumption)) | ((with_reducible apply Rt.ckR); focus ((repeat (first | (with_reducible (first | refine Rt.fin ?_ | refine Rt.tL ?_ | refine Rt.tI ?_ | refine Rt.tB ?_ | refine Rt.tS ?_ | refine Rt.tP ?_ | refine Rt.tD ?_ | refine Rt.tM ?_ | refine Rt.tC ?_ | refine Rt.tN ?_ | refine Rt.tA ?_ | refine Rt.tG ?_ | refine Rt.tF ?_ | refine Rt.os ?_ | refine Rt.clS ?_ | refine Rt.jmN ?_ | refine Rt.jbN ?_ | refine Rt.jbE ?_)) | ((with_reducible (first | apply Rt.ld0 | apply Rt.ld1 | apply Rt.ld2 | apply Rt.ld3 | apply Rt.ld4 | apply Rt.ld5)); first | assumption | exact Lc.kp (by assumption) (by assumption)) | ((with_reducible apply Rt.ol); first | assumption | exact cell_kp (by assumption) (by assumption)))); exact Rt.some' rfl))))
  rw [Compare_bytes (hx.key.kp k12) (hy.key.kp k12)]
  (repeat (first | (with_reducible (first | refine Rt.fin ?_ | refine Rt.tL ?_ | refine Rt.tI ?_ | refine Rt.tB ?_ | refine Rt.tS ?_ | refine Rt.tP ?_ | refine Rt.tD ?_ | refine Rt.tM ?_ | refine Rt.tC ?_ | refine Rt.tN ?_ | refine Rt.tA ?_ | refine Rt.tG ?_ | refine Rt.tF ?_ | refine Rt.os ?_ | refine Rt.clS ?_ | refine Rt.jmN ?_ | refine Rt.jbN ?_ | refine Rt.jbE ?_)) | ((with_reducible (first | apply Rt.ld0 | apply Rt.ld1 | apply Rt.ld2 | apply Rt.ld3 | apply Rt.ld4 | apply Rt.ld5)); first | assumption | exact Lc.kp (by assumption) (by assumption)) | ((with_reducible apply Rt.ol); first | assumption | exact cell_kp (by assumption) (by assumption)) | ((with_reducible apply Rt.ckR); focus ((repeat (first | (with_reducible (first | refine Rt.fin ?_ | refine Rt.tL ?_ | refine Rt.tI ?_ | refine Rt.tB ?_ | refine Rt.tS ?_ | refine Rt.tP ?_ | refine Rt.tD ?_ | refine Rt.tM ?_ | refine Rt.tC ?_ | refine Rt.tN ?_ | refine Rt.tA ?_ | refine Rt.tG ?_ | refine Rt.tF ?_ | refine Rt.os ?_ | refine Rt.clS ?_ | refine Rt.jmN ?_ | refine Rt.jbN ?_ | refine Rt.jbE ?_)) | ((with_reducible (first | apply Rt.ld0 | apply Rt.ld1 | apply Rt.ld2 | apply Rt.ld3 | apply Rt.ld4 | apply Rt.ld5)); first | assumption | exact Lc.kp (by assumption) (by assumption)) | ((with_reducible apply Rt.ol); first | assumption | exact cell_kp (by assumption) (by assumption)))); exact Rt.some' rfl))))
  rw [Compare_u64]
  (repeat (first | (with_reducible (first | refine Rt.fin ?_ | refine Rt.tL ?_ | refine Rt.tI ?_ | refine Rt.tB ?_ | refine Rt.tS ?_ | refine Rt.tP ?_ | refine Rt.tD ?_ | refine Rt.tM ?_ | refine Rt.tC ?_ | refine Rt.tN ?_ | refine Rt.tA ?_ | refine Rt.tG ?_ | refine Rt.tF ?_ | refine Rt.os ?_ | refine Rt.clS ?_ | refine Rt.jmN ?_ | refine Rt.jbN ?_ | refine Rt.jbE ?_)) | ((with_reducible (first | apply Rt.ld0 | apply Rt.ld1 | apply Rt.ld2 | apply Rt.ld3 | apply Rt.ld4 | apply Rt.ld5)); first | assumption | exact Lc.kp (by assumption) (by assumption)) | ((with_reducible apply Rt.ol); first | assumption | exact cell_kp (by assumption) (by assumption)) | ((with_reducible apply Rt.ckR); focus ((repeat (first | (with_reducible (first | refine Rt.fin ?_ | refine Rt.tL ?_ | refine Rt.tI ?_ | refine Rt.tB ?_ | refine Rt.tS ?_ | refine Rt.tP ?_ | refine Rt.tD ?_ | refine Rt.tM ?_ | refine Rt.tC ?_ | refine Rt.tN ?_ | refine Rt.tA ?_ | refine Rt.tG ?_ | refine Rt.tF ?_ | refine Rt.os ?_ | refine Rt.clS ?_ | refine Rt.jmN ?_ | refine Rt.jbN ?_ | refine Rt.jbE ?_)) | ((with_reducible (first | apply Rt.ld0 | apply Rt.ld1 | apply Rt.ld2 | apply Rt.ld3 | apply Rt.ld4 | apply Rt.ld5)); first | assumption | exact Lc.kp (by assumption) (by assumption)) | ((with_reducible apply Rt.ol); first | assumption | exact cell_kp (by assumption) (by assumption)))); exact Rt.some' rfl))))
  rw [Compare_int]
  (repeat (first | (with_reducible (first | refine Rt.fin ?_ | refine Rt.tL ?_ | refine Rt.tI ?_ | refine Rt.tB ?_ | refine Rt.tS ?_ | refine Rt.tP ?_ | refine Rt.tD ?_ | refine Rt.tM ?_ | refine Rt.tC ?_ | refine Rt.tN ?_ | refine Rt.tA ?_ | refine Rt.tG ?_ | refine Rt.tF ?_ | refine Rt.os ?_ | refine Rt.clS ?_ | refine Rt.jmN ?_ | refine Rt.jbN ?_ | refine Rt.jbE ?_)) | ((with_reducible (first | apply Rt.ld0 | apply Rt.ld1 | apply Rt.ld2 | apply Rt.ld3 | apply Rt.ld4 | apply Rt.ld5)); first | assumption | exact Lc.kp (by assumption) (by assumption)) | ((with_reducible apply Rt.ol); first | assumption | exact cell_kp (by assumption) (by assumption)) | ((with_reducible apply Rt.ckR); focus ((repeat (first | (with_reducible (first | refine Rt.fin ?_ | refine Rt.tL ?_ | refine Rt.tI ?_ | refine Rt.tB ?_ | refine Rt.tS ?_ | refine Rt.tP ?_ | refine Rt.tD ?_ | refine Rt.tM ?_ | refine Rt.tC ?_ | refine Rt.tN ?_ | refine Rt.tA ?_ | refine Rt.tG ?_ | refine Rt.tF ?_ | refine Rt.os ?_ | refine Rt.clS ?_ | refine Rt.jmN ?_ | refine Rt.jbN ?_ | refine Rt.jbE ?_)) | ((with_reducible (first | apply Rt.ld0 | apply Rt.ld1 | apply Rt.ld2 | apply Rt.ld3 | apply Rt.ld4 | apply Rt.ld5)); first | assumption | exact Lc.kp (by assumption) (by assumption)) | ((with_reducible apply Rt.ol); first | assumption | exact cell_kp (by assumption) (by assumption)))); exact Rt.some' rfl))))
  refine Rt.alo [_, _, _] 3 rfl rfl (by decide) fun w3 o3 k3 => ?_
  rw [Or3 hn o3.sl.2]
  (repeat (first | (with_reducible (first | refine Rt.fin ?_ | refine Rt.tL ?_ | refine Rt.tI ?_ | refine Rt.tB ?_ | refine Rt.tS ?_ | refine Rt.tP ?_ | refine Rt.tD ?_ | refine Rt.tM ?_ | refine Rt.tC ?_ | refine Rt.tN ?_ | refine Rt.tA ?_ | refine Rt.tG ?_ | refine Rt.tF ?_ | refine Rt.os ?_ | refine Rt.clS ?_ | refine Rt.jmN ?_ | refine Rt.jbN ?_ | refine Rt.jbE ?_)) | ((with_reducible (first | apply Rt.ld0 | apply Rt.ld1 | apply Rt.ld2 | apply Rt.ld3 | apply Rt.ld4 | apply Rt.ld5)); first | assumption | exact Lc.kp (by assumption) (by assumption)) | ((with_reducible apply Rt.ol); first | assumption | exact cell_kp (by assumption) (by assumption)) | ((with_reducible apply Rt.ckR); focus ((repeat (first | (with_reducible (first | refine Rt.fin ?_ | refine Rt.tL ?_ | refine Rt.tI ?_ | refine Rt.tB ?_ | refine Rt.tS ?_ | refine Rt.tP ?_ | refine Rt.tD ?_ | refine Rt.tM ?_ | refine Rt.tC ?_ | refine Rt.tN ?_ | refine Rt.tA ?_ | refine Rt.tG ?_ | refine Rt.tF ?_ | refine Rt.os ?_ | refine Rt.clS ?_ | refine Rt.jmN ?_ | refine Rt.jbN ?_ | refine Rt.jbE ?_)) | ((with_reducible (first | apply Rt.ld0 | apply Rt.ld1 | apply Rt.ld2 | apply Rt.ld3 | apply Rt.ld4 | apply Rt.ld5)); first | assumption | exact Lc.kp (by assumption) (by assumption)) | ((with_reducible apply Rt.ol); first | assumption | exact cell_kp (by assumption) (by assumption)))); exact Rt.some' rfl))))
  refine Rt.endI ?_ (k12.tr k3)
  rw [hx.seq, hx.kind, hy.seq, hy.kind]; rfl
theorem CompareBytes_l0 {xs ys : List Int} (hx : Bv .u8 w A l c xs) (hy : Bv .u8 w B m d ys) {w0 : World} (n : Nat) : ∀ (q i j : Nat) (w' : World), i + q = l → q < j → i ≤ m → Kp w w' → (∀ r : Int, cmpB (xs.drop i) (ys.drop i) = r → cmpB xs ys = r) → l < 2 ^ 62 →
    Rt (butteryref1_CompareBytes.l0 n j A l c B m d (i : Int) w') fun r => Kp w r.w ∧ (r.ex = .exit 0 ∧ r.vals = [.slice A l c, .slice B m d] ∧ cmpB xs ys = (if l < m then -1 else if m < l then 1 else 0) ∨ r.ex = .ret ∧ r.vals = [.int .i64 (cmpB xs ys)]) := by
  intro q
  have hxl := hx.len
  have hyl := hy.len
  induction q with
  | zero =>
    intro i j w' hi hj him hk hc hl
    obtain ⟨j, rfl⟩ : ∃ j', j = j' + 1 := ⟨j - 1, by omega⟩
    rw [butteryref1_CompareBytes.l0_succ]
    refine Rt.cDF (by omega) (Rt.some' ⟨hk, .inl ⟨rfl, rfl, ?_⟩⟩)
    apply hc
    rw [List.drop_of_length_le (by omega)]
    by_cases h : m = l
    · rw [List.drop_of_length_le (by omega), if_neg (by omega), if_neg (by omega)]; rfl
    · rw [List.drop_eq_getElem_cons (by omega), if_pos (by omega)]; rfl
  | succ q ih =>
    intro i j w' hi hj him hk hc hl
    obtain ⟨j, rfl⟩ : ∃ j', j = j' + 1 := ⟨j - 1, by omega⟩
    rw [butteryref1_CompareBytes.l0_succ]
    refine Rt.cDT (by omega) (Rt.cD (fun h => ?_) fun h => ?_)
    · have e1 : xs.drop i = xs.getD i 0 :: xs.drop (i + 1) := by rw [List.drop_eq_getElem_cons (by omega)]; simp [List.getD_eq_getElem?_getD, show i < xs.length by omega]
      have e2 : ys.drop i = ys.getD i 0 :: ys.drop (i + 1) := by rw [List.drop_eq_getElem_cons (by omega)]; simp [List.getD_eq_getElem?_getD, show i < ys.length by omega]
      have hk1 : Kp w w'.drew := hk.dr
      refine Rt.ix (hx.kp hk1).sl (by omega) (by omega) (Rt.ix (hy.kp hk1).sl (by omega) (by omega) (Rt.cN (fun he => ?_) fun he => ?_))
      · rw [Go.IntWalk.i64_in _ (by omega), show ((i : Int) + 1) = ((i + 1 : Nat) : Int) by omega]
        refine ih (i + 1) j _ (by omega) (by omega) (by omega) hk1 (fun r hr => hc r ?_) hl
        rw [e1, e2]
        simp only [Int.toNat_natCast] at he
        simp only [cmpB, he, Int.lt_irrefl, if_false]
        exact hr
      · have hk2 : Kp w w'.drew.drew := hk1.dr
        simp only [Int.toNat_natCast] at he
        refine Rt.ix (hx.kp hk2).sl (by omega) (by omega) (Rt.ix (hy.kp hk2).sl (by omega) (by omega) (Rt.cD (fun hl => ?_) fun hl => ?_))
        · simp only [Int.toNat_natCast] at hl
          refine Rt.some' ⟨hk2, .inr ⟨rfl, ?_⟩⟩
          rw [hc (-1) (by rw [e1, e2]; simp only [cmpB]; rw [if_pos hl])]
        · simp only [Int.toNat_natCast] at hl
          refine Rt.some' ⟨hk2, .inr ⟨rfl, ?_⟩⟩
          rw [hc 1 (by rw [e1, e2]; simp only [cmpB]; rw [if_neg hl, if_pos (by omega)])]
    · refine Rt.some' ⟨hk, .inl ⟨rfl, rfl, ?_⟩⟩
      apply hc
      rw [List.drop_of_length_le (l := ys) (by omega), List.drop_eq_getElem_cons (by omega), if_neg (by omega), if_pos (by omega)]; rfl
theorem CompareBytes_spec {xs ys : List Int} (hx : Bv .u8 w A l c xs) (hy : Bv .u8 w B m d ys) (hn : l < n) (hl : l < 2 ^ 62) : Rt (butteryref1_CompareBytes n [.slice A l c, .slice B m d] w) (RI .i64 (cmpB xs ys) w) := by
  rw [butteryref1_CompareBytes_eq]
  refine Rt.fin (Rt.jb (Rt.mono (CompareBytes_l0 (w0 := w) hx hy n l 0 n w (by omega) (by omega) (Nat.zero_le _) (Kp.rfl' w) (fun r h => h) hl) ?_))
  rintro ⟨ex, vs, w1⟩ ⟨k1, ⟨h1, h2, h4⟩ | ⟨h1, h2⟩⟩
  · dsimp only at h1 h2 k1
    subst h1 h2
    refine .inl ⟨.inr rfl, ?_⟩
    (repeat (first | (with_reducible (first | refine Rt.fin ?_ | refine Rt.tL ?_ | refine Rt.tI ?_ | refine Rt.tB ?_ | refine Rt.tS ?_ | refine Rt.tP ?_ | refine Rt.tD ?_ | refine Rt.tM ?_ | refine Rt.tC ?_ | refine Rt.tN ?_ | refine Rt.tA ?_ | refine Rt.tG ?_ | refine Rt.tF ?_ | refine Rt.os ?_ | refine Rt.clS ?_ | refine Rt.jmN ?_ | refine Rt.jbN ?_ | refine Rt.jbE ?_)) | ((with_reducible (first | apply Rt.ld0 | apply Rt.ld1 | apply Rt.ld2 | apply Rt.ld3 | apply Rt.ld4 | apply Rt.ld5)); first | assumption | exact Lc.kp (by assumption) (by assumption)) | ((with_reducible apply Rt.ol); first | assumption | exact cell_kp (by assumption) (by assumption)) | ((with_reducible apply Rt.ckR); focus ((repeat (first | (with_reducible (first | refine Rt.fin ?_ | refine Rt.tL ?_ | refine Rt.tI ?_ | refine Rt.tB ?_ | refine Rt.tS ?_ | refine Rt.tP ?_ | refine Rt.tD ?_ | refine Rt.tM ?_ | refine Rt.tC ?_ | refine Rt.tN ?_ | refine Rt.tA ?_ | refine Rt.tG ?_ | refine Rt.tF ?_ | refine Rt.os ?_ | refine Rt.clS ?_ | refine Rt.jmN ?_ | refine Rt.jbN ?_ | refine Rt.jbE ?_)) | ((with_reducible (first | apply Rt.ld0 | apply Rt.ld1 | apply Rt.ld2 | apply Rt.ld3 | apply Rt.ld4 | apply Rt.ld5)); first | assumption | exact Lc.kp (by assumption) (by assumption)) | ((with_reducible apply Rt.ol); first | assumption | exact cell_kp (by assumption) (by assumption)))); exact Rt.some' rfl))))
    refine Rt.cD (fun h => ?_) fun h => ?_
    · exact Rt.endI (by rw [h4, if_pos (by omega)]) k1
    · refine Rt.cD (fun h => ?_) fun h => ?_
      · exact Rt.endI (by rw [h4, if_neg (by omega), if_pos (by omega)]) k1
      · exact Rt.endI (by rw [h4, if_neg (by omega), if_neg (by omega)]) k1
  · dsimp only at h1 h2 k1
    subst h1 h2
    exact .inr ⟨rfl, rfl, w1, rfl, k1⟩
theorem RCompare_spec (hx : KeyV w A l c s k x) (hy : KeyV w B m d s' k' y) (hn : l < n) (hl : l < 2 ^ 62) : Rt (butteryref1_Compare n [kv A l c s k, kv B m d s' k'] w) (RI .i64 (cmpK x y) w) := by
  have h1 := hx.seq
  have h2 := hx.kind
  have h3 := hy.seq
  have h4 := hy.kind
  rw [butteryref1_Compare_eq]
  refine Rt.fin (Rt.al fun w1 l1 k1 _ => Rt.al fun w2 l2 k2 _ => ?_)
  have l1 := l1.kp k2
  have k12 := k1.tr k2
  (repeat (first | (with_reducible (first | refine Rt.fin ?_ | refine Rt.tL ?_ | refine Rt.tI ?_ | refine Rt.tB ?_ | refine Rt.tS ?_ | refine Rt.tP ?_ | refine Rt.tD ?_ | refine Rt.tM ?_ | refine Rt.tC ?_ | refine Rt.tN ?_ | refine Rt.tA ?_ | refine Rt.tG ?_ | refine Rt.tF ?_ | refine Rt.os ?_ | refine Rt.clS ?_ | refine Rt.jmN ?_ | refine Rt.jbN ?_ | refine Rt.jbE ?_)) | ((with_reducible (first | apply Rt.ld0 | apply Rt.ld1 | apply Rt.ld2 | apply Rt.ld3 | apply Rt.ld4 | apply Rt.ld5)); first | assumption | exact Lc.kp (by assumption) (by assumption)) | ((with_reducible apply Rt.ol); first | assumption | exact cell_kp (by assumption) (by assumption)) | ((with_reducible apply Rt.ckR); focus ((repeat (first | (with_reducible (first | refine Rt.fin ?_ | refine Rt.tL ?_ | refine Rt.tI ?_ | refine Rt.tB ?_ | refine Rt.tS ?_ | refine Rt.tP ?_ | refine Rt.tD ?_ | refine Rt.tM ?_ | refine Rt.tC ?_ | refine Rt.tN ?_ | refine Rt.tA ?_ | refine Rt.tG ?_ | refine Rt.tF ?_ | refine Rt.os ?_ | refine Rt.clS ?_ | refine Rt.jmN ?_ | refine Rt.jbN ?_ | refine Rt.jbE ?_)) | ((with_reducible (first | apply Rt.ld0 | apply Rt.ld1 | apply Rt.ld2 | apply Rt.ld3 | apply Rt.ld4 | apply Rt.ld5)); first | assumption | exact Lc.kp (by assumption) (by assumption)) | ((with_reducible apply Rt.ol); first | assumption | exact cell_kp (by assumption) (by assumption)))); exact Rt.some' rfl))))
  refine Rt.cI (CompareBytes_spec (hx.key.kp k12) (hy.key.kp k12) hn hl) fun w3 k3 => ?_
  have k13 := k12.tr k3
  unfold cmpK
  refine Rt.cN (fun h => ?_) fun h => ?_
  · rw [if_neg (by simpa using h)]
    (repeat (first | (with_reducible (first | refine Rt.fin ?_ | refine Rt.tL ?_ | refine Rt.tI ?_ | refine Rt.tB ?_ | refine Rt.tS ?_ | refine Rt.tP ?_ | refine Rt.tD ?_ | refine Rt.tM ?_ | refine Rt.tC ?_ | refine Rt.tN ?_ | refine Rt.tA ?_ | refine Rt.tG ?_ | refine Rt.tF ?_ | refine Rt.os ?_ | refine Rt.clS ?_ | refine Rt.jmN ?_ | refine Rt.jbN ?_ | refine Rt.jbE ?_)) | ((with_reducible (first | apply Rt.ld0 | apply Rt.ld1 | apply Rt.ld2 | apply Rt.ld3 | apply Rt.ld4 | apply Rt.ld5)); first | assumption | exact Lc.kp (by assumption) (by assumption)) | ((with_reducible apply Rt.ol); first | assumption | exact cell_kp (by assumption) (by assumption)) | ((with_reducible apply Rt.ckR); focus ((repeat (first | (with_reducible (first | refine Rt.fin ?_ | refine Rt.tL ?_ | refine Rt.tI ?_ | refine Rt.tB ?_ | refine Rt.tS ?_ | refine Rt.tP ?_ | refine Rt.tD ?_ | refine Rt.tM ?_ | refine Rt.tC ?_ | refine Rt.tN ?_ | refine Rt.tA ?_ | refine Rt.tG ?_ | refine Rt.tF ?_ | refine Rt.os ?_ | refine Rt.clS ?_ | refine Rt.jmN ?_ | refine Rt.jbN ?_ | refine Rt.jbE ?_)) | ((with_reducible (first | apply Rt.ld0 | apply Rt.ld1 | apply Rt.ld2 | apply Rt.ld3 | apply Rt.ld4 | apply Rt.ld5)); first | assumption | exact Lc.kp (by assumption) (by assumption)) | ((with_reducible apply Rt.ol); first | assumption | exact cell_kp (by assumption) (by assumption)))); exact Rt.some' rfl))))
    refine Rt.cD (fun h => ?_) fun h => ?_
    · exact Rt.endI (by rw [cmpN_lt (show y.seq < x.seq by omega)]; rfl) k13
    · (repeat (first | (with_reducible (first | refine Rt.fin ?_ | refine Rt.tL ?_ | refine Rt.tI ?_ | refine Rt.tB ?_ | refine Rt.tS ?_ | refine Rt.tP ?_ | refine Rt.tD ?_ | refine Rt.tM ?_ | refine Rt.tC ?_ | refine Rt.tN ?_ | refine Rt.tA ?_ | refine Rt.tG ?_ | refine Rt.tF ?_ | refine Rt.os ?_ | refine Rt.clS ?_ | refine Rt.jmN ?_ | refine Rt.jbN ?_ | refine Rt.jbE ?_)) | ((with_reducible (first | apply Rt.ld0 | apply Rt.ld1 | apply Rt.ld2 | apply Rt.ld3 | apply Rt.ld4 | apply Rt.ld5)); first | assumption | exact Lc.kp (by assumption) (by assumption)) | ((with_reducible apply Rt.ol); first | assumption | exact cell_kp (by assumption) (by assumption)) | ((with_reducible apply Rt.ckR); focus ((repeat (first | (with_reducible (first | refine Rt.fin ?_ | refine Rt.tL ?_ | refine Rt.tI ?_ | refine Rt.tB ?_ | refine Rt.tS ?_ | refine Rt.tP ?_ | refine Rt.tD ?_ | refine Rt.tM ?_ | refine Rt.tC ?_ | refine Rt.tN ?_ | refine Rt.tA ?_ | refine Rt.tG ?_ | refine Rt.tF ?_ | refine Rt.os ?_ | refine Rt.clS ?_ | refine Rt.jmN ?_ | refine Rt.jbN ?_ | refine Rt.jbE ?_)) | ((with_reducible (first | apply Rt.ld0 | apply Rt.ld1 | apply Rt.ld2 | apply Rt.ld3 | apply Rt.ld4 | apply Rt.ld5)); first | assumption | exact Lc.kp (by assumption) (by assumption)) | ((with_reducible apply Rt.ol); first | assumption | exact cell_kp (by assumption) (by assumption)))); exact Rt.some' rfl))))
      refine Rt.cD (fun h => ?_) fun h => ?_
      · exact Rt.endI (by rw [cmpN_gt (show x.seq < y.seq by omega)]; rfl) k13
      · (repeat (first | (with_reducible (first | refine Rt.fin ?_ | refine Rt.tL ?_ | refine Rt.tI ?_ | refine Rt.tB ?_ | refine Rt.tS ?_ | refine Rt.tP ?_ | refine Rt.tD ?_ | refine Rt.tM ?_ | refine Rt.tC ?_ | refine Rt.tN ?_ | refine Rt.tA ?_ | refine Rt.tG ?_ | refine Rt.tF ?_ | refine Rt.os ?_ | refine Rt.clS ?_ | refine Rt.jmN ?_ | refine Rt.jbN ?_ | refine Rt.jbE ?_)) | ((with_reducible (first | apply Rt.ld0 | apply Rt.ld1 | apply Rt.ld2 | apply Rt.ld3 | apply Rt.ld4 | apply Rt.ld5)); first | assumption | exact Lc.kp (by assumption) (by assumption)) | ((with_reducible apply Rt.ol); first | assumption | exact cell_kp (by assumption) (by assumption)) | ((with_reducible apply Rt.ckR); focus ((repeat (first | (with_reducible (first | refine Rt.fin ?_ | refine Rt.tL ?_ | refine Rt.tI ?_ | refine Rt.tB ?_ | refine Rt.tS ?_ | refine Rt.tP ?_ | refine Rt.tD ?_ | refine Rt.tM ?_ | refine Rt.tC ?_ | refine Rt.tN ?_ | refine Rt.tA ?_ | refine Rt.tG ?_ | refine Rt.tF ?_ | refine Rt.os ?_ | refine Rt.clS ?_ | refine Rt.jmN ?_ | refine Rt.jbN ?_ | refine Rt.jbE ?_)) | ((with_reducible (first | apply Rt.ld0 | apply Rt.ld1 | apply Rt.ld2 | apply Rt.ld3 | apply Rt.ld4 | apply Rt.ld5)); first | assumption | exact Lc.kp (by assumption) (by assumption)) | ((with_reducible apply Rt.ol); first | assumption | exact cell_kp (by assumption) (by assumption)))); exact Rt.some' rfl))))
        rw [cmpN_eq (show y.seq = x.seq by omega), if_neg (by simp)]
        refine Rt.cD (fun h => ?_) fun h => ?_
        · exact Rt.endI (by rw [cmpN_lt (show y.kind < x.kind by omega)]) k13
        · (repeat (first | (with_reducible (first | refine Rt.fin ?_ | refine Rt.tL ?_ | refine Rt.tI ?_ | refine Rt.tB ?_ | refine Rt.tS ?_ | refine Rt.tP ?_ | refine Rt.tD ?_ | refine Rt.tM ?_ | refine Rt.tC ?_ | refine Rt.tN ?_ | refine Rt.tA ?_ | refine Rt.tG ?_ | refine Rt.tF ?_ | refine Rt.os ?_ | refine Rt.clS ?_ | refine Rt.jmN ?_ | refine Rt.jbN ?_ | refine Rt.jbE ?_)) | ((with_reducible (first | apply Rt.ld0 | apply Rt.ld1 | apply Rt.ld2 | apply Rt.ld3 | apply Rt.ld4 | apply Rt.ld5)); first | assumption | exact Lc.kp (by assumption) (by assumption)) | ((with_reducible apply Rt.ol); first | assumption | exact cell_kp (by assumption) (by assumption)) | ((with_reducible apply Rt.ckR); focus ((repeat (first | (with_reducible (first | refine Rt.fin ?_ | refine Rt.tL ?_ | refine Rt.tI ?_ | refine Rt.tB ?_ | refine Rt.tS ?_ | refine Rt.tP ?_ | refine Rt.tD ?_ | refine Rt.tM ?_ | refine Rt.tC ?_ | refine Rt.tN ?_ | refine Rt.tA ?_ | refine Rt.tG ?_ | refine Rt.tF ?_ | refine Rt.os ?_ | refine Rt.clS ?_ | refine Rt.jmN ?_ | refine Rt.jbN ?_ | refine Rt.jbE ?_)) | ((with_reducible (first | apply Rt.ld0 | apply Rt.ld1 | apply Rt.ld2 | apply Rt.ld3 | apply Rt.ld4 | apply Rt.ld5)); first | assumption | exact Lc.kp (by assumption) (by assumption)) | ((with_reducible apply Rt.ol); first | assumption | exact cell_kp (by assumption) (by assumption)))); exact Rt.some' rfl))))
          refine Rt.cD (fun h => ?_) fun h => ?_
          · exact Rt.endI (by rw [cmpN_gt (show x.kind < y.kind by omega)]) k13
          · exact Rt.endI (by rw [cmpN_eq (show y.kind = x.kind by omega)]) k13
  · exact Rt.endI (by rw [if_pos h]) k13
end
theorem cmpB_tri : ∀ (a b : List Int), cmpB a b = -1 ∨ cmpB a b = 0 ∨ cmpB a b = 1
  | [], [] => by simp [cmpB]
  | [], _ :: _ => by simp [cmpB]
  | _ :: _, [] => by simp [cmpB]
  | a :: p, b :: q => by
    simp only [cmpB]
    split
    · simp
    · split
      · simp
      · exact cmpB_tri p q
theorem cmpB_zero : ∀ {a b : List Int}, cmpB a b = 0 ↔ a = b
  | [], [] => by simp [cmpB]
  | [], _ :: _ => by simp [cmpB]
  | _ :: _, [] => by simp [cmpB]
  | a :: p, b :: q => by
    have ih := @cmpB_zero p q
    simp only [cmpB, List.cons.injEq]
    split
    · simp; omega
    · split
      · simp; omega
      · rw [ih]; exact ⟨fun h => ⟨by omega, h⟩, fun h => h.2⟩
theorem cmpB_anti : ∀ (a b : List Int), cmpB b a = -cmpB a b
  | [], [] => by simp [cmpB]
  | [], _ :: _ => by simp [cmpB]
  | _ :: _, [] => by simp [cmpB]
  | a :: p, b :: q => by
    have ih := cmpB_anti p q
    simp only [cmpB]
    by_cases h1 : a < b
    · rw [if_neg (show ¬ b < a by omega), if_pos h1, if_pos h1]; rfl
    · by_cases h2 : b < a
      · rw [if_pos h2, if_neg h1, if_pos h2]
      · rw [if_neg h2, if_neg h1, if_neg h1, if_neg h2, ih]
theorem cmpB_trans : ∀ {a b c : List Int}, cmpB a b ≤ 0 → cmpB b c ≤ 0 → cmpB a c ≤ 0
  | [], _, [], _, _ => by simp [cmpB]
  | [], _, _ :: _, _, _ => by simp [cmpB]
  | _ :: _, [], _, h, _ => by simp [cmpB] at h
  | _ :: _, _ :: _, [], _, h => by simp [cmpB] at h
  | a :: p, b :: q, c :: r, h1, h2 => by
    simp only [cmpB] at h1 h2 ⊢
    by_cases e1 : a < c
    · rw [if_pos e1]; decide
    · rw [if_neg e1]
      by_cases e2 : c < a
      · exfalso
        by_cases f1 : a < b
        · rw [if_neg (show ¬ b < c by omega), if_pos (show c < b by omega)] at h2; omega
        · rw [if_neg f1] at h1
          by_cases f2 : b < a
          · rw [if_pos f2] at h1; omega
          · rw [if_neg (show ¬ b < c by omega), if_pos (show c < b by omega)] at h2; omega
      · rw [if_neg e2]
        by_cases f1 : a < b
        · rw [if_neg (show ¬ b < c by omega), if_pos (show c < b by omega)] at h2; omega
        · by_cases f2 : b < a
          · rw [if_neg f1, if_pos f2] at h1; omega
          · rw [if_neg f1, if_neg f2] at h1
            rw [if_neg (show ¬ b < c by omega), if_neg (show ¬ c < b by omega)] at h2
            exact cmpB_trans h1 h2
theorem cmpN_cases (a b : Int) : (a < b ∧ cmpN a b = -1) ∨ (a = b ∧ cmpN a b = 0) ∨ (b < a ∧ cmpN a b = 1) := by
  rcases Int.lt_trichotomy a b with h | h | h
  · exact .inl ⟨h, cmpN_lt h⟩
  · exact .inr (.inl ⟨h, cmpN_eq h⟩)
  · exact .inr (.inr ⟨h, cmpN_gt h⟩)
theorem cmpK_cases (x y : Key) : (cmpB x.key y.key ≠ 0 ∧ cmpK x y = cmpB x.key y.key) ∨ (cmpB x.key y.key = 0 ∧ ((y.seq < x.seq ∧ cmpK x y = -1) ∨ (x.seq < y.seq ∧ cmpK x y = 1) ∨
    (x.seq = y.seq ∧ ((y.kind < x.kind ∧ cmpK x y = -1) ∨ (x.kind = y.kind ∧ cmpK x y = 0) ∨ (x.kind < y.kind ∧ cmpK x y = 1))))) := by
  unfold cmpK
  by_cases h : cmpB x.key y.key = 0
  · right
    rw [if_neg (by simpa using h)]
    refine ⟨h, ?_⟩
    rcases cmpN_cases y.seq x.seq with ⟨h1, h2⟩ | ⟨h1, h2⟩ | ⟨h1, h2⟩
    · rw [h2]; exact .inl ⟨h1, rfl⟩
    · rw [h2]
      rcases cmpN_cases y.kind x.kind with ⟨h3, h4⟩ | ⟨h3, h4⟩ | ⟨h3, h4⟩
      · rw [h4]; exact .inr (.inr ⟨h1.symm, .inl ⟨h3, rfl⟩⟩)
      · rw [h4]; exact .inr (.inr ⟨h1.symm, .inr (.inl ⟨h3.symm, rfl⟩)⟩)
      · rw [h4]; exact .inr (.inr ⟨h1.symm, .inr (.inr ⟨h3, rfl⟩)⟩)
    · rw [h2]; exact .inr (.inl ⟨h1, rfl⟩)
  · exact .inl ⟨h, by rw [if_pos h]⟩
theorem cmpK_tri (x y : Key) : cmpK x y = -1 ∨ cmpK x y = 0 ∨ cmpK x y = 1 := by
  have := cmpB_tri x.key y.key
  have := cmpK_cases x y
  omega
theorem cmpK_anti (x y : Key) : cmpK y x = -cmpK x y := by
  have := cmpB_anti x.key y.key
  have := cmpK_cases x y
  have := cmpK_cases y x
  omega
theorem cmpK_zero (x y : Key) : cmpK x y = 0 ↔ (x.key = y.key ∧ x.seq = y.seq ∧ x.kind = y.kind) := by
  have h := @cmpB_zero x.key y.key
  have := cmpK_cases x y
  rw [← h]
  omega
theorem cmpK_trans {x y z : Key} (h1 : cmpK x y ≤ 0) (h2 : cmpK y z ≤ 0) : cmpK x z ≤ 0 := by
  have a1 := cmpK_cases x y
  have a2 := cmpK_cases y z
  have a3 := cmpK_cases x z
  have t1 := cmpB_tri x.key y.key
  have t2 := cmpB_tri y.key z.key
  have t3 := cmpB_tri x.key z.key
  by_cases e1 : cmpB x.key y.key = 0
  · have := cmpB_zero.1 e1
    rw [this] at a1 a3 t1 t3 e1
    omega
  · by_cases e2 : cmpB y.key z.key = 0
    · have := cmpB_zero.1 e2
      rw [this] at a1 a2 t1 t2 e2
      omega
    · have h3 := cmpB_trans (a := x.key) (b := y.key) (c := z.key) (by omega) (by omega)
      have h4 : cmpB x.key z.key ≠ 0 := fun h => by
        have e := cmpB_zero.1 h
        have e' := cmpB_anti y.key z.key
        rw [← e] at e' a2 t2 e2
        omega
      omega
end Go.Proofs.Ytoilmnplocfipaa.Ik
