/- Keys: that they are read as they were written; what the laws of bytes come to. -/
import Derived.Test.YtkepocdeegncgaaI4
namespace Go.Proofs.Ytkepocdeegncgaa.Ik
open Go Big Go.RowKit Go.IntWalk
set_option linter.unusedVariables false
set_option linter.unusedSimpArgs false
def k0 : Key := ⟨[], 0, 0⟩
def keyOf (xs : List Int) : Key := ⟨xs.take (xs.length - 8), le (xs.drop (xs.length - 8)) / 256, le (xs.drop (xs.length - 8)) % 256⟩
open Classical in
noncomputable def readK (xs : List Int) : Key × Int := if xs.length < 9 then (k0, 4) else if rightK (keyOf xs) then (keyOf xs, 0) else (k0, 2)
def RK (w0 : World) (x : Key × Int) : List Value × World → Prop := fun r => ∃ B m d s k w', r = ([kv B m d s k, .int .i64 x.2], w') ∧ KeyV w' B m d s k x.1 ∧ Kp w0 w'
section
variable {n : Nat} {w w0 : World} {A B : Option Addr} {l c m d : Nat} {s k s' k' : Int} {x y : Key} {xs ys : List Int}
theorem Rt.endK {w' : World} {B : Option Addr} {m d : Nat} {s k e : Int} {x : Key × Int} (h : KeyV w' B m d s k x.1) (he : e = x.2) (hk : Kp w0 w') : Rt (some (⟨.ret, [kv B m d s k, .int .i64 e], w'⟩ : Res)) (fun r => r.ex = .ret ∧ RK w0 x (r.vals, r.w)) := ⟨_, rfl, rfl, B, m, d, s, k, w', by rw [he], h, hk⟩
theorem le_step (hb : Bytes xs) {i : Nat} (hi : i < xs.length) : le (xs.drop i) = xs.getD i 0 + 256 * le (xs.drop (i + 1)) := by
  rw [List.drop_eq_getElem_cons hi, le]
  simp [List.getD_eq_getElem?_getD, hi]
theorem shl_or {x y : Int} (h : 0 ≤ x ∧ x < 256) (hy : 0 ≤ y ∧ y < 2 ^ 56) : bits .or .u64 (IntKind.u64.wrap (y * 2 ^ 8)) (IntKind.u64.wrap x) = x + 256 * y := by
  have e : y * 2 ^ 8 = y * 256 := by rw [show (2 : Int) ^ 8 = 256 from rfl]
  rw [u64_in _ (by omega), u64_in x (by omega), (orI 8 (by omega) (by omega) (by omega) (by omega)).2]
  omega
theorem le_small (hb : Bytes xs) {i : Nat} (h : xs.length - i ≤ 7) : 0 ≤ le (xs.drop i) ∧ le (xs.drop i) < 2 ^ 56 := by
  have := le_nonneg (xs := xs.drop i) fun z hz => hb z (List.mem_of_mem_drop hz)
  have key : ∀ a : Nat, a < 8 → (256 : Int) ^ a ≤ 2 ^ 56 := by decide
  have h2 := key (xs.drop i).length (by rw [List.length_drop]; omega)
  omega
theorem byte_at (hb : Bytes xs) {i : Nat} (hi : i < xs.length) : 0 ≤ xs.getD i 0 ∧ xs.getD i 0 < 256 := by
  have : xs.getD i 0 ∈ xs := by simp [List.getD_eq_getElem?_getD, hi]
  exact u8wf (hb _ this)
theorem Read_l0 (hx : Bv .u8 w A l c xs) {b : Addr} {w0 : World} (h9 : 9 ≤ l) (hl : l ≤ 2 ^ 38) : ∀ (q j : Nat), q ≤ 8 → q < j →
    Rt (ikey_Read.l0 n j A l c b ((l : Int) - 8) (le (xs.drop (l - 8 + q))) ((l : Int) - 8 + q - 1) w) fun r => r = ⟨.exit 0, [.slice A l c, .pointer (some b), .int .i64 ((l : Int) - 8), .int .u64 (le (xs.drop (l - 8)))], w⟩ := by
  have hxl := hx.len
  intro q
  induction q with
  | zero =>
    intro j _ hj
    obtain ⟨j, rfl⟩ : ∃ j', j = j' + 1 := ⟨j - 1, by omega⟩
    rw [ikey_Read.l0_succ]
    exact Rt.cDF (by omega) (Rt.some' rfl)
  | succ q ih =>
    intro j hq hj
    obtain ⟨j, rfl⟩ : ∃ j', j = j' + 1 := ⟨j - 1, by omega⟩
    rw [ikey_Read.l0_succ]
    refine Rt.cDT (by omega) (Rt.ix hx.sl (by omega) (by omega) ?_)
    have e1 : ((l : Int) - 8 + ((q + 1 : Nat) : Int) - 1).toNat = l - 8 + q := by omega
    rw [e1, shl_or (byte_at hx.rng (by omega)) (le_small hx.rng (by omega)), show l - 8 + (q + 1) = l - 8 + q + 1 by omega, ← le_step hx.rng (by omega), i64_in _ (by omega),
      show (l : Int) - 8 + ((q + 1 : Nat) : Int) - 1 - 1 = (l : Int) - 8 + q - 1 by omega]
    exact ih j (by omega) (by omega)
theorem drop_take (h : 8 ≤ l) (hxl : xs.length = l) : (xs.take ((l : Int) - 8).toNat).drop (Int.toNat 0) = xs.take (l - 8) := by
  rw [show ((l : Int) - 8).toNat = l - 8 by omega]; simp
theorem le_lt (hb : Bytes xs) (h : xs.length = l) (h9 : 9 ≤ l) : 0 ≤ le (xs.drop (l - 8)) ∧ le (xs.drop (l - 8)) < 2 ^ 64 := by
  have := le_nonneg (xs := xs.drop (l - 8)) fun z hz => hb z (List.mem_of_mem_drop hz)
  rw [List.length_drop, show xs.length - (l - 8) = 8 by omega] at this
  omega
theorem wf64 {z : Int} (h : 0 ≤ z ∧ z < 2 ^ 64) : (Lit.int .u64 z).wf = true := by
  have h0 : IntKind.u64.min = 0 := rfl
  have h1 : IntKind.u64.max = 2 ^ 64 - 1 := rfl
  simp only [Lit.wf, h0, h1, Bool.and_eq_true, decide_eq_true_eq]; omega
theorem wfi {z : Int} (h : -2 ^ 63 ≤ z ∧ z < 2 ^ 63) : (Lit.int .i64 z).wf = true := by
  have h0 : IntKind.i64.min = -2 ^ 63 := rfl
  have h1 : IntKind.i64.max = 2 ^ 63 - 1 := rfl
  simp only [Lit.wf, h0, h1, Bool.and_eq_true, decide_eq_true_eq]; omega
theorem key0 (w : World) : KeyV w none 0 0 0 0 k0 := ⟨⟨Sl.nil .., fun _ => ⟨rfl, rfl⟩, Nat.le_refl _, Nat.zero_le _, by simp [k0]⟩, rfl, rfl, by decide, by decide⟩
theorem Read_spec (hx : Bv .u8 w A l c xs) (hl : l ≤ 2 ^ 38) (hn : 20 < n) : Rt (ikey_Read n [.slice A l c] w) (RK w (readK xs)) := by
  have hxl := hx.len
  rw [ikey_Read_eq]
  refine Rt.fin (Rt.al fun w1 l1 k1 hs1 => ?_)
  rw [i64_in ((l : Int) - 8) (by omega), i64_in ((l : Int) - 1) (by omega)]
  refine Rt.cD (fun h => ?_) fun h => ?_
  · refine Rt.sto3 l1 fun w2 l2 g2 => ?_
    (repeat (first | (with_reducible refine Rt.fin ?_) | (with_reducible refine Rt.tL ?_) | (with_reducible refine Rt.tI ?_) | (with_reducible refine Rt.tB ?_) | (with_reducible refine Rt.tS ?_) | (with_reducible refine Rt.tP ?_) | (with_reducible refine Rt.tD ?_) | (with_reducible refine Rt.tM ?_) | (with_reducible refine Rt.tC ?_) | (with_reducible refine Rt.tN ?_) | (with_reducible refine Rt.tA ?_) | (with_reducible refine Rt.tG ?_) | (with_reducible refine Rt.tF ?_) | (with_reducible refine Rt.os ?_) | (with_reducible refine Rt.clS ?_) | (with_reducible refine Rt.jmN ?_) | (with_reducible refine Rt.jbN ?_) | (with_reducible refine Rt.jbE ?_) | ((with_reducible apply Rt.ld0); first | assumption | exact Lc.kp (by assumption) (by assumption)) | ((with_reducible apply Rt.ld1); first | assumption | exact Lc.kp (by assumption) (by assumption)) | ((with_reducible apply Rt.ld2); first | assumption | exact Lc.kp (by assumption) (by assumption)) | ((with_reducible apply Rt.ld3); first | assumption | exact Lc.kp (by assumption) (by assumption)) | ((with_reducible apply Rt.ld4); first | assumption | exact Lc.kp (by assumption) (by assumption)) | ((with_reducible apply Rt.ckR); focus ((repeat (first | (with_reducible refine Rt.fin ?_) | (with_reducible refine Rt.tL ?_) | (with_reducible refine Rt.tI ?_) | (with_reducible refine Rt.tB ?_) | (with_reducible refine Rt.tS ?_) | (with_reducible refine Rt.tP ?_) | (with_reducible refine Rt.tD ?_) | (with_reducible refine Rt.tM ?_) | (with_reducible refine Rt.tC ?_) | (with_reducible refine Rt.tN ?_) | (with_reducible refine Rt.tA ?_) | (with_reducible refine Rt.tG ?_) | (with_reducible refine Rt.tF ?_) | (with_reducible refine Rt.os ?_) | (with_reducible refine Rt.clS ?_) | (with_reducible refine Rt.jmN ?_) | (with_reducible refine Rt.jbN ?_) | (with_reducible refine Rt.jbE ?_) | ((with_reducible apply Rt.ld0); first | assumption | exact Lc.kp (by assumption) (by assumption)) | ((with_reducible apply Rt.ld1); first | assumption | exact Lc.kp (by assumption) (by assumption)) | ((with_reducible apply Rt.ld2); first | assumption | exact Lc.kp (by assumption) (by assumption)) | ((with_reducible apply Rt.ld3); first | assumption | exact Lc.kp (by assumption) (by assumption)) | ((with_reducible apply Rt.ld4); first | assumption | exact Lc.kp (by assumption) (by assumption)))); exact Rt.some' rfl))))
    refine Rt.endK (x := readK xs) ?_ ?_ (k1.tx g2 fun j hj => by omega)
    · rw [readK, if_pos (by omega)]; exact key0 _
    · rw [readK, if_pos (by omega)]
  · have hl0 := Read_l0 (n := n) (b := ⟨w.heap.size, 0, none⟩) (w0 := w) (hx.kp k1) (by omega) hl 8 n (by omega) (by omega)
    rw [List.drop_of_length_le (by omega), show (l : Int) - 8 + (8 : Nat) - 1 = l - 1 by omega] at hl0
    obtain ⟨_, e, rfl⟩ := hl0
    have e' : ikey_Read.l0 n n A l c ⟨w.heap.size, 0, none⟩ ((l : Int) - 8) 0 ((l : Int) - 1) w1 = _ := e
    rw [e']
    (repeat (first | (with_reducible refine Rt.fin ?_) | (with_reducible refine Rt.tL ?_) | (with_reducible refine Rt.tI ?_) | (with_reducible refine Rt.tB ?_) | (with_reducible refine Rt.tS ?_) | (with_reducible refine Rt.tP ?_) | (with_reducible refine Rt.tD ?_) | (with_reducible refine Rt.tM ?_) | (with_reducible refine Rt.tC ?_) | (with_reducible refine Rt.tN ?_) | (with_reducible refine Rt.tA ?_) | (with_reducible refine Rt.tG ?_) | (with_reducible refine Rt.tF ?_) | (with_reducible refine Rt.os ?_) | (with_reducible refine Rt.clS ?_) | (with_reducible refine Rt.jmN ?_) | (with_reducible refine Rt.jbN ?_) | (with_reducible refine Rt.jbE ?_) | ((with_reducible apply Rt.ld0); first | assumption | exact Lc.kp (by assumption) (by assumption)) | ((with_reducible apply Rt.ld1); first | assumption | exact Lc.kp (by assumption) (by assumption)) | ((with_reducible apply Rt.ld2); first | assumption | exact Lc.kp (by assumption) (by assumption)) | ((with_reducible apply Rt.ld3); first | assumption | exact Lc.kp (by assumption) (by assumption)) | ((with_reducible apply Rt.ld4); first | assumption | exact Lc.kp (by assumption) (by assumption)) | ((with_reducible apply Rt.ckR); focus ((repeat (first | (with_reducible refine Rt.fin ?_) | (with_reducible refine Rt.tL ?_) | (with_reducible refine Rt.tI ?_) | (with_reducible refine Rt.tB ?_) | (with_reducible refine Rt.tS ?_) | (with_reducible refine Rt.tP ?_) | (with_reducible refine Rt.tD ?_) | (with_reducible refine Rt.tM ?_) | (with_reducible refine Rt.tC ?_) | (with_reducible refine Rt.tN ?_) | (with_reducible refine Rt.tA ?_) | (with_reducible refine Rt.tG ?_) | (with_reducible refine Rt.tF ?_) | (with_reducible refine Rt.os ?_) | (with_reducible refine Rt.clS ?_) | (with_reducible refine Rt.jmN ?_) | (with_reducible refine Rt.jbN ?_) | (with_reducible refine Rt.jbE ?_) | ((with_reducible apply Rt.ld0); first | assumption | exact Lc.kp (by assumption) (by assumption)) | ((with_reducible apply Rt.ld1); first | assumption | exact Lc.kp (by assumption) (by assumption)) | ((with_reducible apply Rt.ld2); first | assumption | exact Lc.kp (by assumption) (by assumption)) | ((with_reducible apply Rt.ld3); first | assumption | exact Lc.kp (by assumption) (by assumption)) | ((with_reducible apply Rt.ld4); first | assumption | exact Lc.kp (by assumption) (by assumption)))); exact Rt.some' rfl))))
    refine Rt.cut (hx.kp k1) (by omega) (by omega) (by omega) fun C hC => ?_
    rw [drop_take (by omega) hxl] at hC
    have hC' : Bv .u8 w1 C (l - 8) c (xs.take (l - 8)) := by
      have := hC
      rwa [show ((l : Int) - 8).toNat - Int.toNat 0 = l - 8 by omega, show c - Int.toNat 0 = c by simp] at this
    rw [show ((l : Int) - 8).toNat - Int.toNat 0 = l - 8 by omega]
    have hC2 : Bv .u8 w1 C (l - 8) (c - Int.toNat 0) (xs.take (l - 8)) := by rwa [show ((l : Int) - 8).toNat - Int.toNat 0 = l - 8 by omega] at hC
    refine Rt.cO (Clone_spec hC2 (by omega)) fun D f w3 o3 k3 => ?_
    have k13 := k1.tr k3
    have hle := le_lt hx.rng hxl (by omega)
    have hbt : Bytes (xs.take (l - 8)) := fun z hz => hx.rng z (List.mem_of_mem_take hz)
    have e1 : Int.fdiv (le (xs.drop (l - 8))) (2 ^ 8) = le (xs.drop (l - 8)) / 256 := by rw [fdivI]; rfl
    have e2 : IntKind.i64.wrap (IntKind.u8.wrap (le (xs.drop (l - 8)))) = le (xs.drop (l - 8)) % 256 := by rw [u8w, i64_in _ (by omega)]
    rw [e1, e2]
    refine Rt.al3 fun w4 l4 k4 hs4 => ?_
    have hK : KeyV w4 D (xs.take (l - 8)).length f (le (xs.drop (l - 8)) / 256) (le (xs.drop (l - 8)) % 256) (keyOf xs) := by
      refine ⟨?_, ?_, ?_, wf64 ?_, wfi ?_⟩ <;> simp only [keyOf, hxl]
      · have := (o3.kp k4).bv hbt
        exact this
      · omega
      · omega
    have k14 := k13.tr k4
    (repeat (first | (with_reducible refine Rt.fin ?_) | (with_reducible refine Rt.tL ?_) | (with_reducible refine Rt.tI ?_) | (with_reducible refine Rt.tB ?_) | (with_reducible refine Rt.tS ?_) | (with_reducible refine Rt.tP ?_) | (with_reducible refine Rt.tD ?_) | (with_reducible refine Rt.tM ?_) | (with_reducible refine Rt.tC ?_) | (with_reducible refine Rt.tN ?_) | (with_reducible refine Rt.tA ?_) | (with_reducible refine Rt.tG ?_) | (with_reducible refine Rt.tF ?_) | (with_reducible refine Rt.os ?_) | (with_reducible refine Rt.clS ?_) | (with_reducible refine Rt.jmN ?_) | (with_reducible refine Rt.jbN ?_) | (with_reducible refine Rt.jbE ?_) | ((with_reducible apply Rt.ld0); first | assumption | exact Lc.kp (by assumption) (by assumption)) | ((with_reducible apply Rt.ld1); first | assumption | exact Lc.kp (by assumption) (by assumption)) | ((with_reducible apply Rt.ld2); first | assumption | exact Lc.kp (by assumption) (by assumption)) | ((with_reducible apply Rt.ld3); first | assumption | exact Lc.kp (by assumption) (by assumption)) | ((with_reducible apply Rt.ld4); first | assumption | exact Lc.kp (by assumption) (by assumption)) | ((with_reducible apply Rt.ckR); focus ((repeat (first | (with_reducible refine Rt.fin ?_) | (with_reducible refine Rt.tL ?_) | (with_reducible refine Rt.tI ?_) | (with_reducible refine Rt.tB ?_) | (with_reducible refine Rt.tS ?_) | (with_reducible refine Rt.tP ?_) | (with_reducible refine Rt.tD ?_) | (with_reducible refine Rt.tM ?_) | (with_reducible refine Rt.tC ?_) | (with_reducible refine Rt.tN ?_) | (with_reducible refine Rt.tA ?_) | (with_reducible refine Rt.tG ?_) | (with_reducible refine Rt.tF ?_) | (with_reducible refine Rt.os ?_) | (with_reducible refine Rt.clS ?_) | (with_reducible refine Rt.jmN ?_) | (with_reducible refine Rt.jbN ?_) | (with_reducible refine Rt.jbE ?_) | ((with_reducible apply Rt.ld0); first | assumption | exact Lc.kp (by assumption) (by assumption)) | ((with_reducible apply Rt.ld1); first | assumption | exact Lc.kp (by assumption) (by assumption)) | ((with_reducible apply Rt.ld2); first | assumption | exact Lc.kp (by assumption) (by assumption)) | ((with_reducible apply Rt.ld3); first | assumption | exact Lc.kp (by assumption) (by assumption)) | ((with_reducible apply Rt.ld4); first | assumption | exact Lc.kp (by assumption) (by assumption)))); exact Rt.some' rfl))))
    refine Rt.cBo (Right_spec hK) fun b w5 hb k5 => ?_
    have l1' := ((l1.kp k3).kp k4).kp k5
    have l4' := l4.kp k5
    have k15 := k14.tr k5
    cases b with
    | false =>
      refine Rt.cT rfl (Rt.sto3 l1' fun w6 l6 g6 => ?_)
      (repeat (first | (with_reducible refine Rt.fin ?_) | (with_reducible refine Rt.tL ?_) | (with_reducible refine Rt.tI ?_) | (with_reducible refine Rt.tB ?_) | (with_reducible refine Rt.tS ?_) | (with_reducible refine Rt.tP ?_) | (with_reducible refine Rt.tD ?_) | (with_reducible refine Rt.tM ?_) | (with_reducible refine Rt.tC ?_) | (with_reducible refine Rt.tN ?_) | (with_reducible refine Rt.tA ?_) | (with_reducible refine Rt.tG ?_) | (with_reducible refine Rt.tF ?_) | (with_reducible refine Rt.os ?_) | (with_reducible refine Rt.clS ?_) | (with_reducible refine Rt.jmN ?_) | (with_reducible refine Rt.jbN ?_) | (with_reducible refine Rt.jbE ?_) | ((with_reducible apply Rt.ld0); first | assumption | exact Lc.kp (by assumption) (by assumption)) | ((with_reducible apply Rt.ld1); first | assumption | exact Lc.kp (by assumption) (by assumption)) | ((with_reducible apply Rt.ld2); first | assumption | exact Lc.kp (by assumption) (by assumption)) | ((with_reducible apply Rt.ld3); first | assumption | exact Lc.kp (by assumption) (by assumption)) | ((with_reducible apply Rt.ld4); first | assumption | exact Lc.kp (by assumption) (by assumption)) | ((with_reducible apply Rt.ckR); focus ((repeat (first | (with_reducible refine Rt.fin ?_) | (with_reducible refine Rt.tL ?_) | (with_reducible refine Rt.tI ?_) | (with_reducible refine Rt.tB ?_) | (with_reducible refine Rt.tS ?_) | (with_reducible refine Rt.tP ?_) | (with_reducible refine Rt.tD ?_) | (with_reducible refine Rt.tM ?_) | (with_reducible refine Rt.tC ?_) | (with_reducible refine Rt.tN ?_) | (with_reducible refine Rt.tA ?_) | (with_reducible refine Rt.tG ?_) | (with_reducible refine Rt.tF ?_) | (with_reducible refine Rt.os ?_) | (with_reducible refine Rt.clS ?_) | (with_reducible refine Rt.jmN ?_) | (with_reducible refine Rt.jbN ?_) | (with_reducible refine Rt.jbE ?_) | ((with_reducible apply Rt.ld0); first | assumption | exact Lc.kp (by assumption) (by assumption)) | ((with_reducible apply Rt.ld1); first | assumption | exact Lc.kp (by assumption) (by assumption)) | ((with_reducible apply Rt.ld2); first | assumption | exact Lc.kp (by assumption) (by assumption)) | ((with_reducible apply Rt.ld3); first | assumption | exact Lc.kp (by assumption) (by assumption)) | ((with_reducible apply Rt.ld4); first | assumption | exact Lc.kp (by assumption) (by assumption)))); exact Rt.some' rfl))))
      have hr : ¬rightK (keyOf xs) := fun h => by simpa using hb.2 h
      refine Rt.endK (x := readK xs) ?_ ?_ (k15.tx g6 fun j hj => by omega)
      · rw [readK, if_neg (by omega), if_neg hr]; exact key0 _
      · rw [readK, if_neg (by omega), if_neg hr]
    | true =>
      have hr : rightK (keyOf xs) := hb.1 rfl
      refine Rt.cF rfl ?_
      (repeat (first | (with_reducible refine Rt.fin ?_) | (with_reducible refine Rt.tL ?_) | (with_reducible refine Rt.tI ?_) | (with_reducible refine Rt.tB ?_) | (with_reducible refine Rt.tS ?_) | (with_reducible refine Rt.tP ?_) | (with_reducible refine Rt.tD ?_) | (with_reducible refine Rt.tM ?_) | (with_reducible refine Rt.tC ?_) | (with_reducible refine Rt.tN ?_) | (with_reducible refine Rt.tA ?_) | (with_reducible refine Rt.tG ?_) | (with_reducible refine Rt.tF ?_) | (with_reducible refine Rt.os ?_) | (with_reducible refine Rt.clS ?_) | (with_reducible refine Rt.jmN ?_) | (with_reducible refine Rt.jbN ?_) | (with_reducible refine Rt.jbE ?_) | ((with_reducible apply Rt.ld0); first | assumption | exact Lc.kp (by assumption) (by assumption)) | ((with_reducible apply Rt.ld1); first | assumption | exact Lc.kp (by assumption) (by assumption)) | ((with_reducible apply Rt.ld2); first | assumption | exact Lc.kp (by assumption) (by assumption)) | ((with_reducible apply Rt.ld3); first | assumption | exact Lc.kp (by assumption) (by assumption)) | ((with_reducible apply Rt.ld4); first | assumption | exact Lc.kp (by assumption) (by assumption)) | ((with_reducible apply Rt.ckR); focus ((repeat (first | (with_reducible refine Rt.fin ?_) | (with_reducible refine Rt.tL ?_) | (with_reducible refine Rt.tI ?_) | (with_reducible refine Rt.tB ?_) | (with_reducible refine Rt.tS ?_) | (with_reducible refine Rt.tP ?_) | (with_reducible refine Rt.tD ?_) | (with_reducible refine Rt.tM ?_) | (with_reducible refine Rt.tC ?_) | (with_reducible refine Rt.tN ?_) | (with_reducible refine Rt.tA ?_) | (with_reducible refine Rt.tG ?_) | (with_reducible refine Rt.tF ?_) | (with_reducible refine Rt.os ?_) | (with_reducible refine Rt.clS ?_) | (with_reducible refine Rt.jmN ?_) | (with_reducible refine Rt.jbN ?_) | (with_reducible refine Rt.jbE ?_) | ((with_reducible apply Rt.ld0); first | assumption | exact Lc.kp (by assumption) (by assumption)) | ((with_reducible apply Rt.ld1); first | assumption | exact Lc.kp (by assumption) (by assumption)) | ((with_reducible apply Rt.ld2); first | assumption | exact Lc.kp (by assumption) (by assumption)) | ((with_reducible apply Rt.ld3); first | assumption | exact Lc.kp (by assumption) (by assumption)) | ((with_reducible apply Rt.ld4); first | assumption | exact Lc.kp (by assumption) (by assumption)))); exact Rt.some' rfl))))
      refine Rt.sto3 l1' fun w6 l6 g6 => ?_
      (repeat (first | (with_reducible refine Rt.fin ?_) | (with_reducible refine Rt.tL ?_) | (with_reducible refine Rt.tI ?_) | (with_reducible refine Rt.tB ?_) | (with_reducible refine Rt.tS ?_) | (with_reducible refine Rt.tP ?_) | (with_reducible refine Rt.tD ?_) | (with_reducible refine Rt.tM ?_) | (with_reducible refine Rt.tC ?_) | (with_reducible refine Rt.tN ?_) | (with_reducible refine Rt.tA ?_) | (with_reducible refine Rt.tG ?_) | (with_reducible refine Rt.tF ?_) | (with_reducible refine Rt.os ?_) | (with_reducible refine Rt.clS ?_) | (with_reducible refine Rt.jmN ?_) | (with_reducible refine Rt.jbN ?_) | (with_reducible refine Rt.jbE ?_) | ((with_reducible apply Rt.ld0); first | assumption | exact Lc.kp (by assumption) (by assumption)) | ((with_reducible apply Rt.ld1); first | assumption | exact Lc.kp (by assumption) (by assumption)) | ((with_reducible apply Rt.ld2); first | assumption | exact Lc.kp (by assumption) (by assumption)) | ((with_reducible apply Rt.ld3); first | assumption | exact Lc.kp (by assumption) (by assumption)) | ((with_reducible apply Rt.ld4); first | assumption | exact Lc.kp (by assumption) (by assumption)) | ((with_reducible apply Rt.ckR); focus ((repeat (first | (with_reducible refine Rt.fin ?_) | (with_reducible refine Rt.tL ?_) | (with_reducible refine Rt.tI ?_) | (with_reducible refine Rt.tB ?_) | (with_reducible refine Rt.tS ?_) | (with_reducible refine Rt.tP ?_) | (with_reducible refine Rt.tD ?_) | (with_reducible refine Rt.tM ?_) | (with_reducible refine Rt.tC ?_) | (with_reducible refine Rt.tN ?_) | (with_reducible refine Rt.tA ?_) | (with_reducible refine Rt.tG ?_) | (with_reducible refine Rt.tF ?_) | (with_reducible refine Rt.os ?_) | (with_reducible refine Rt.clS ?_) | (with_reducible refine Rt.jmN ?_) | (with_reducible refine Rt.jbN ?_) | (with_reducible refine Rt.jbE ?_) | ((with_reducible apply Rt.ld0); first | assumption | exact Lc.kp (by assumption) (by assumption)) | ((with_reducible apply Rt.ld1); first | assumption | exact Lc.kp (by assumption) (by assumption)) | ((with_reducible apply Rt.ld2); first | assumption | exact Lc.kp (by assumption) (by assumption)) | ((with_reducible apply Rt.ld3); first | assumption | exact Lc.kp (by assumption) (by assumption)) | ((with_reducible apply Rt.ld4); first | assumption | exact Lc.kp (by assumption) (by assumption)))); exact Rt.some' rfl))))
      have o6 := ((o3.kp k4).kp k5).gx g6 fun j hj hj' => by have := (o3.lt j hj).1; omega
      have hK6 : KeyV w6 D (xs.take (l - 8)).length f (le (xs.drop (l - 8)) / 256) (le (xs.drop (l - 8)) % 256) (keyOf xs) := by
        refine ⟨?_, hK.seq, hK.kind, hK.rs, hK.rk⟩
        have := o6.bv hbt
        simp only [keyOf, hxl]; exact this
      refine Rt.endK (x := readK xs) ?_ ?_ (k15.tx g6 fun j hj => by omega)
      · rw [readK, if_neg (by omega), if_pos hr]; exact hK6
      · rw [readK, if_neg (by omega), if_pos hr]
end
end Go.Proofs.Ytkepocdeegncgaa.Ik
