/- SkipNewest. -/
import Derived.Test.YtoilmnplocfipaaS10
namespace Go.Proofs.Ytoilmnplocfipaa.Sk
open Go Big Go.RowKit Go.IntWalk Ik
set_option linter.unusedVariables false
set_option linter.unusedSimpArgs false
theorem and1n (x : Int) : bits .and .i64 x 1 = 0 ∨ bits .and .i64 x 1 = 1 := by
  have hb : (BitVec.ofInt 64 x &&& BitVec.ofInt 64 1).toNat ≤ 1 := by
    rw [BitVec.toNat_and]
    exact Nat.and_le_right
  unfold bits
  simp only [IntKind.bits]
  show IntKind.i64.wrap (((BitVec.ofInt 64 x &&& BitVec.ofInt 64 1).toNat : Nat) : Int) = 0 ∨ IntKind.i64.wrap (((BitVec.ofInt 64 x &&& BitVec.ofInt 64 1).toNat : Nat) : Int) = 1
  generalize (BitVec.ofInt 64 x &&& BitVec.ofInt 64 1).toNat = y at hb
  rcases (show y = 0 ∨ y = 1 by omega) with rfl | rfl
  · exact .inl (by decide)
  · exact .inr (by decide)
def kdN (hs : List Int) (j : Nat) : Int := bits .and .i64 (hs.getD j 0) 1
def valN (hs : List Int) (j : Nat) : List Int := if kdN hs j = 1 then [(j : Int)] else []
def entN (hs : List Int) (j : Nat) : En := ⟨[107], ((j + 1 : Nat) : Int), kdN hs j, valN hs j⟩
def hN (hs : List Int) (j : Nat) : Int := bits .and .i64 (Int.fdiv (hs.getD j 0) (2 ^ 1)) 3
def accN (hs : List Int) : Nat → List (En × Nat)
  | 0 => []
  | i + 1 => (entN hs i, (clampI (hN hs i)).toNat) :: accN hs i
theorem accN_len {hs : List Int} : ∀ i, (accN hs i).length = i
  | 0 => rfl
  | i + 1 => by rw [accN, List.length_cons, accN_len]
theorem accN_mem {hs : List Int} {y : En × Nat} : ∀ {i : Nat}, y ∈ accN hs i → ∃ j, j < i ∧ y.1 = entN hs j
  | 0, h => by cases h
  | i + 1, h => by
    rw [accN] at h
    rcases List.mem_cons.1 h with rfl | h
    · exact ⟨i, by omega, rfl⟩
    · obtain ⟨j, hj, e⟩ := accN_mem h
      exact ⟨j, by omega, e⟩
theorem cmpB_same (l : List Int) : cmpB l l = 0 := by
  have := ((cmpK_zero ⟨l, 0, 0⟩ ⟨l, 0, 0⟩).2 ⟨rfl, rfl, rfl⟩)
  unfold cmpK at this
  by_cases h : cmpB l l = 0
  · exact h
  · rw [if_pos h] at this; exact this
theorem cmpK_seq {s t k k' : Int} (h : s < t) : cmpK ⟨[107], s, k⟩ ⟨[107], t, k'⟩ = 1 ∧ cmpK ⟨[107], t, k⟩ ⟨[107], s, k'⟩ = -1 := by
  unfold cmpK cmpN
  simp only [cmpB_same]
  constructor
  · rw [if_neg (by simp), if_neg (by omega : ¬ t < s), if_pos h]; rfl
  · rw [if_neg (by simp), if_pos h]; rfl
theorem ins_N {hs : List Int} {i : Nat} (hi : i < 50) : insA (entN hs i) (hN hs i) (accN hs i) = (0, accN hs (i + 1)) := by
  have hr : rightE (entN hs i) := by
    refine ⟨⟨Nat.le_refl 1, (show 1 ≤ 256 by decide), ?_, and1n _⟩, ?_, ?_⟩
    · show ((i + 1 : Nat) : Int) ≤ _; omega
    · show (valN hs i).length ≤ 4096
      unfold valN; split <;> simp
    · intro h
      have h : kdN hs i = 0 := h
      show (valN hs i).length = 0
      unfold valN; rw [h]; rfl
  have hb : ∀ y ∈ accN hs i, 0 < cmpK y.1.k (entN hs i).k := fun y hy => by
    obtain ⟨j, hj, e⟩ := accN_mem hy
    rw [e]
    show 0 < cmpK ⟨[107], ((j + 1 : Nat) : Int), _⟩ ⟨[107], ((i + 1 : Nat) : Int), _⟩
    rw [(cmpK_seq (by omega)).1]; decide
  unfold insA
  rw [if_neg (fun h => h hr), if_neg (by rintro ⟨y, hy, h⟩; have := hb y hy; omega)]
  have hf : ∀ y ∈ accN hs i, belA (entN hs i).k y = false := fun y hy => by have := hb y hy; simp [belA]; omega
  have e : (accN hs i).takeWhile (belA (entN hs i).k) = [] ∧ (accN hs i).dropWhile (belA (entN hs i).k) = accN hs i := by
    cases hc : accN hs i with
    | nil => exact ⟨rfl, rfl⟩
    | cons y t =>
      have := hf y (by rw [hc]; exact List.mem_cons_self)
      rw [List.takeWhile_cons_of_neg (by simp [this]), List.dropWhile_cons_of_neg (by simp [this])]
      exact ⟨rfl, rfl⟩
  unfold putA
  rw [e.1, e.2]; rfl
theorem drop_N {hs : List Int} {q : Nat} : ∀ i, (accN hs i).dropWhile (belA ⟨[107], (q : Int), 1⟩) = accN hs (min q i)
  | 0 => by rw [Nat.min_zero]; rfl
  | i + 1 => by
    by_cases h : q ≤ i
    · have hb : belA ⟨[107], (q : Int), 1⟩ (entN hs i, (clampI (hN hs i)).toNat) = true := by
        unfold belA
        show decide (cmpK ⟨[107], ((i + 1 : Nat) : Int), _⟩ ⟨[107], (q : Int), 1⟩ < 0) = true
        rw [(cmpK_seq (by omega)).2]; rfl
      rw [accN, List.dropWhile_cons_of_pos hb, drop_N i, Nat.min_eq_left h, Nat.min_eq_left (by omega)]
    · have hb : belA ⟨[107], (q : Int), 1⟩ (entN hs i, (clampI (hN hs i)).toNat) = false := by
        unfold belA
        show decide (cmpK ⟨[107], ((i + 1 : Nat) : Int), kdN hs i⟩ ⟨[107], (q : Int), 1⟩ < 0) = false
        rw [decide_eq_false_iff_not]
        by_cases h' : i + 1 < q
        · rw [(cmpK_seq (by omega)).1]; decide
        · obtain rfl : q = i + 1 := by omega
          unfold cmpK cmpN
          simp only [cmpB_same]
          rw [if_neg (by simp), if_neg (by omega : ¬ ((i + 1 : Nat) : Int) < ((i + 1 : Nat) : Int))]
          have hk : kdN hs i = 0 ∨ kdN hs i = 1 := and1n _
          rw [if_neg (by simp)]
          rcases hk with e | e <;> rw [e] <;> simp
      rw [Nat.min_eq_right (by omega)]
      unfold accN
      rw [List.dropWhile_cons_of_neg (by simp [hb])]
theorem get_N {hs : List Int} {q i : Nat} : getA [107] (q : Int) (accN hs i) = if min q i = 0 then none else some (entN hs (min q i - 1)) := by
  unfold getA seekA
  rw [drop_N]
  generalize min q i = r
  cases r with
  | zero => rfl
  | succ r => rfl
theorem wf8 {j : Nat} (h : j < 256) : (Lit.int .u8 (j : Int)).wf = true := by
  have : ∀ y : Fin 256, (Lit.int .u8 ((y.val : Nat) : Int)).wf = true := by decide +kernel
  exact this ⟨j, h⟩
theorem kd_wf (hs : List Int) (j : Nat) : (Lit.int .i64 (kdN hs j)).wf = true := by
  rcases and1n (hs.getD j 0) with e | e
  · show (Lit.int .i64 (bits .and .i64 (hs.getD j 0) 1)).wf = true
    rw [e]; decide
  · show (Lit.int .i64 (bits .and .i64 (hs.getD j 0) 1)).wf = true
    rw [e]; decide
theorem wf64 {j : Nat} (h : j < 256) : (Lit.int .u64 (j : Int)).wf = true := by
  have : ∀ y : Fin 256, (Lit.int .u64 ((y.val : Nat) : Int)).wf = true := by decide +kernel
  exact this ⟨j, h⟩
section
variable {α : Type} {Q : α → Prop} {n base b : Nat} {w w' w0 : World} {S T R : Nat → Prop} {s : St} {A B : Option Addr} {c l m d a1 a2 : Nat} {ks : List (En × Nat)} {x : En} {xs : List En} {hs : List Int} {v : Value}
theorem Newest_l0 {at_ : Int} (hv : Bv .i64 w A l c hs) (hl : l ≤ 40) (hn : 2 ^ 60 < n) : ∀ (f i j : Nat) (S : Nat → Prop) (w' : World), i + f = l → f < j → Kp w w' → (∀ z, S z → w.heap.size ≤ z) → SkA w' w.heap.size b S (accN hs i) →
    Rt (butterylaw9_SkipNewest.l0 n j A l c at_ (some ⟨b, 0, none⟩) (i : Int) w') fun r => r.ex = .exit 0 ∧ r.vals = [.slice A l c, .int .i64 at_, pt b] ∧ Kp w r.w ∧ ∃ S, (∀ z, S z → w.heap.size ≤ z) ∧ SkA r.w w.heap.size b S (accN hs l) := by
  intro f
  induction f with
  | zero =>
    intro i j S w' hi hj hk hS h
    obtain ⟨j, rfl⟩ : ∃ j', j = j' + 1 := ⟨j - 1, by omega⟩
    obtain rfl : i = l := by omega
    rw [butterylaw9_SkipNewest.l0_succ]
    exact Rt.cDF (by omega) (Rt.some' ⟨rfl, rfl, hk, S, hS, h⟩)
  | succ f ih =>
    intro i j S w' hi hj hk hS h
    obtain ⟨j, rfl⟩ : ∃ j', j = j' + 1 := ⟨j - 1, by omega⟩
    rw [butterylaw9_SkipNewest.l0_succ]
    refine Rt.cDT (by omega) (Rt.lit conv [107] 1 rfl rfl (by decide) (by decide) fun K w1 b1 k1 => ?_)
    (repeat (first | (with_reducible (first | refine Rt.fin ?_ | refine Rt.tL ?_ | refine Rt.tI ?_ | refine Rt.tB ?_ | refine Rt.tS ?_ | refine Rt.tP ?_ | refine Rt.tD ?_ | refine Rt.tM ?_ | refine Rt.tC ?_ | refine Rt.tN ?_ | refine Rt.tA ?_ | refine Rt.tG ?_ | refine Rt.tF ?_ | refine Rt.os ?_ | refine Rt.clS ?_ | refine Rt.jmN ?_ | refine Rt.jbN ?_ | refine Rt.jbE ?_)) | ((with_reducible (first | apply Rt.ld0 | apply Rt.ld1 | apply Rt.ld2 | apply Rt.ld3 | apply Rt.ld4 | apply Rt.ld5)); first | assumption | exact Lc.kp (by assumption) (by assumption)) | ((with_reducible apply Rt.ol); first | assumption | exact cell_kp (by assumption) (by assumption)) | ((with_reducible apply Rt.ckR); focus ((repeat (first | (with_reducible (first | refine Rt.fin ?_ | refine Rt.tL ?_ | refine Rt.tI ?_ | refine Rt.tB ?_ | refine Rt.tS ?_ | refine Rt.tP ?_ | refine Rt.tD ?_ | refine Rt.tM ?_ | refine Rt.tC ?_ | refine Rt.tN ?_ | refine Rt.tA ?_ | refine Rt.tG ?_ | refine Rt.tF ?_ | refine Rt.os ?_ | refine Rt.clS ?_ | refine Rt.jmN ?_ | refine Rt.jbN ?_ | refine Rt.jbE ?_)) | ((with_reducible (first | apply Rt.ld0 | apply Rt.ld1 | apply Rt.ld2 | apply Rt.ld3 | apply Rt.ld4 | apply Rt.ld5)); first | assumption | exact Lc.kp (by assumption) (by assumption)) | ((with_reducible apply Rt.ol); first | assumption | exact cell_kp (by assumption) (by assumption)))); exact Rt.some' rfl))))
    have hk1 := hk.tr k1
    refine Rt.ix (hv.kp hk1).sl (by omega) (by omega) ?_
    rw [Int.toNat_natCast]
    refine Rt.al4 fun w2 l2 k2 s2 => ?_
    have hk2 := hk1.tr k2
    have b2 := b1.kp k2
    have hkd : bits .and .i64 (hs.getD i 0) 1 = kdN hs i := rfl
    rw [hkd] at l2
    rw [i64_in _ (by omega), u64_in _ (by omega), show ((i : Int) + 1) = ((i + 1 : Nat) : Int) by omega] at l2
    refine Rt.jm (Rt.mono (Q' := fun r => r.ex = .norm ∧ ∃ V vm vd w3, r = ⟨.norm, [.slice A l c, .int .i64 at_, pt b, .int .i64 (i : Int), .pointer (some ⟨w1.heap.size, 0, none⟩)], w3⟩ ∧ Lc w3 w1.heap.size [.slice K 1 1, .int .u64 ((i + 1 : Nat) : Int), .int .i64 (kdN hs i), .slice V vm vd] ∧ Bv .u8 w3 V vm vd (valN hs i) ∧ Kp w1 w3) ?_ ?_)
    · (repeat (first | (with_reducible (first | refine Rt.fin ?_ | refine Rt.tL ?_ | refine Rt.tI ?_ | refine Rt.tB ?_ | refine Rt.tS ?_ | refine Rt.tP ?_ | refine Rt.tD ?_ | refine Rt.tM ?_ | refine Rt.tC ?_ | refine Rt.tN ?_ | refine Rt.tA ?_ | refine Rt.tG ?_ | refine Rt.tF ?_ | refine Rt.os ?_ | refine Rt.clS ?_ | refine Rt.jmN ?_ | refine Rt.jbN ?_ | refine Rt.jbE ?_)) | ((with_reducible (first | apply Rt.ld0 | apply Rt.ld1 | apply Rt.ld2 | apply Rt.ld3 | apply Rt.ld4 | apply Rt.ld5)); first | assumption | exact Lc.kp (by assumption) (by assumption)) | ((with_reducible apply Rt.ol); first | assumption | exact cell_kp (by assumption) (by assumption)) | ((with_reducible apply Rt.ckR); focus ((repeat (first | (with_reducible (first | refine Rt.fin ?_ | refine Rt.tL ?_ | refine Rt.tI ?_ | refine Rt.tB ?_ | refine Rt.tS ?_ | refine Rt.tP ?_ | refine Rt.tD ?_ | refine Rt.tM ?_ | refine Rt.tC ?_ | refine Rt.tN ?_ | refine Rt.tA ?_ | refine Rt.tG ?_ | refine Rt.tF ?_ | refine Rt.os ?_ | refine Rt.clS ?_ | refine Rt.jmN ?_ | refine Rt.jbN ?_ | refine Rt.jbE ?_)) | ((with_reducible (first | apply Rt.ld0 | apply Rt.ld1 | apply Rt.ld2 | apply Rt.ld3 | apply Rt.ld4 | apply Rt.ld5)); first | assumption | exact Lc.kp (by assumption) (by assumption)) | ((with_reducible apply Rt.ol); first | assumption | exact cell_kp (by assumption) (by assumption)))); exact Rt.some' rfl))))
      refine Rt.cQ (fun e => ?_) fun e => ?_
      · rw [u8w, Int.emod_eq_of_lt (by omega) (by omega)]
        refine Rt.alo [(i : Int)] 1 rfl rfl (by decide) fun w3 o3 k3 => ?_
        refine Rt.st3 (l2.kp k3) fun w4 l4 g4 => Rt.some' ⟨rfl, _, _, _, w4, rfl, l4, ?_, (k2.tr k3).tx g4 fun z hz => by omega⟩
        have hval : valN hs i = [(i : Int)] := by unfold valN; rw [if_pos e]
        rw [hval]
        exact (o3.gx g4 fun z hz e => by have := (o3.lt z hz).1; omega).bv fun z hz => by simp at hz; subst hz; exact wf8 (by omega)
      · have hval : valN hs i = [] := by unfold valN; rw [if_neg e]
        exact Rt.some' ⟨rfl, _, _, _, w2, rfl, l2, by rw [hval]; exact bv_nil, k2⟩
    · rintro r ⟨_, V, vm, vd, w3, rfl, l3, b3, k3⟩
      refine ⟨rfl, ?_⟩
      dsimp only
      have hk3 := (hk1.tr k3).dr
      have l3 := l3.kp (Kp.rfl' w3).dr
      have b3 := b3.kp (Kp.rfl' w3).dr
      have b1 := (b1.kp k3).kp (Kp.rfl' w3).dr
      have h3 := ((h.kp k1).kp k3).kp (Kp.rfl' w3).dr
      (repeat (first | (with_reducible (first | refine Rt.fin ?_ | refine Rt.tL ?_ | refine Rt.tI ?_ | refine Rt.tB ?_ | refine Rt.tS ?_ | refine Rt.tP ?_ | refine Rt.tD ?_ | refine Rt.tM ?_ | refine Rt.tC ?_ | refine Rt.tN ?_ | refine Rt.tA ?_ | refine Rt.tG ?_ | refine Rt.tF ?_ | refine Rt.os ?_ | refine Rt.clS ?_ | refine Rt.jmN ?_ | refine Rt.jbN ?_ | refine Rt.jbE ?_)) | ((with_reducible (first | apply Rt.ld0 | apply Rt.ld1 | apply Rt.ld2 | apply Rt.ld3 | apply Rt.ld4 | apply Rt.ld5)); first | assumption | exact Lc.kp (by assumption) (by assumption)) | ((with_reducible apply Rt.ol); first | assumption | exact cell_kp (by assumption) (by assumption)) | ((with_reducible apply Rt.ckR); focus ((repeat (first | (with_reducible (first | refine Rt.fin ?_ | refine Rt.tL ?_ | refine Rt.tI ?_ | refine Rt.tB ?_ | refine Rt.tS ?_ | refine Rt.tP ?_ | refine Rt.tD ?_ | refine Rt.tM ?_ | refine Rt.tC ?_ | refine Rt.tN ?_ | refine Rt.tA ?_ | refine Rt.tG ?_ | refine Rt.tF ?_ | refine Rt.os ?_ | refine Rt.clS ?_ | refine Rt.jmN ?_ | refine Rt.jbN ?_ | refine Rt.jbE ?_)) | ((with_reducible (first | apply Rt.ld0 | apply Rt.ld1 | apply Rt.ld2 | apply Rt.ld3 | apply Rt.ld4 | apply Rt.ld5)); first | assumption | exact Lc.kp (by assumption) (by assumption)) | ((with_reducible apply Rt.ol); first | assumption | exact cell_kp (by assumption) (by assumption)))); exact Rt.some' rfl))))
      refine Rt.ix (hv.kp hk3).sl (by omega) (by omega) ?_
      rw [Int.toNat_natCast]
      have hz := hk3.size
      have he : EnV w3.drew K 1 1 ((i + 1 : Nat) : Int) (kdN hs i) V vm vd (entN hs i) := ⟨b1, rfl, rfl, wf64 (by omega), kd_wf hs i, b3⟩
      refine Rt.cRF (Insert_spec (H := hN hs i) h3 he hz (by rw [accN_len]; omega) hn) fun w4 S' g4 z4 h4 => ?_
      rw [ins_N (by omega)] at h4 ⊢
      (repeat (first | (with_reducible (first | refine Rt.fin ?_ | refine Rt.tL ?_ | refine Rt.tI ?_ | refine Rt.tB ?_ | refine Rt.tS ?_ | refine Rt.tP ?_ | refine Rt.tD ?_ | refine Rt.tM ?_ | refine Rt.tC ?_ | refine Rt.tN ?_ | refine Rt.tA ?_ | refine Rt.tG ?_ | refine Rt.tF ?_ | refine Rt.os ?_ | refine Rt.clS ?_ | refine Rt.jmN ?_ | refine Rt.jbN ?_ | refine Rt.jbE ?_)) | ((with_reducible (first | apply Rt.ld0 | apply Rt.ld1 | apply Rt.ld2 | apply Rt.ld3 | apply Rt.ld4 | apply Rt.ld5)); first | assumption | exact Lc.kp (by assumption) (by assumption)) | ((with_reducible apply Rt.ol); first | assumption | exact cell_kp (by assumption) (by assumption)) | ((with_reducible apply Rt.ckR); focus ((repeat (first | (with_reducible (first | refine Rt.fin ?_ | refine Rt.tL ?_ | refine Rt.tI ?_ | refine Rt.tB ?_ | refine Rt.tS ?_ | refine Rt.tP ?_ | refine Rt.tD ?_ | refine Rt.tM ?_ | refine Rt.tC ?_ | refine Rt.tN ?_ | refine Rt.tA ?_ | refine Rt.tG ?_ | refine Rt.tF ?_ | refine Rt.os ?_ | refine Rt.clS ?_ | refine Rt.jmN ?_ | refine Rt.jbN ?_ | refine Rt.jbE ?_)) | ((with_reducible (first | apply Rt.ld0 | apply Rt.ld1 | apply Rt.ld2 | apply Rt.ld3 | apply Rt.ld4 | apply Rt.ld5)); first | assumption | exact Lc.kp (by assumption) (by assumption)) | ((with_reducible apply Rt.ol); first | assumption | exact cell_kp (by assumption) (by assumption)))); exact Rt.some' rfl))))
      rw [i64_in _ (by omega), show ((i : Int) + 1) = ((i + 1 : Nat) : Int) by omega]
      refine ih (i + 1) j S' w4 (by omega) (by omega) (hk3.tx g4 hS) (fun z hz' => ?_) h4
      rcases z4 z hz' with e | e
      · exact hS z e
      · have e : w3.drew.heap.size ≤ z := e
        omega
theorem SkipNewest_spec {at_ : Int} (hv : Bv .i64 w A l c hs) (hl : l < 2 ^ 63) (hn : 2 ^ 63 < n) : Rt (butterylaw9_SkipNewest n [.slice A l c, .int .i64 at_] w) (RB True w) := by
  have hn60 : 2 ^ 60 < n := by omega
  rw [butterylaw9_SkipNewest_eq]
  refine Rt.fin (Rt.cBt (alive_spec hn60) trivial fun w1 k1 => Rt.cF rfl ?_)
  refine Rt.cD (fun _ => Rt.endB (by simp) k1) fun h1 => Rt.cD (fun _ => Rt.endB (by simp) k1) fun h2 => Rt.cD (fun _ => Rt.endB (by simp) k1) fun h3 => ?_
  refine Rt.cNew (New_spec (base := w1.heap.size) (Nat.le_refl _) (by omega)) fun w3 b' S k3 hsk hS => ?_
  (repeat (first | (with_reducible (first | refine Rt.fin ?_ | refine Rt.tL ?_ | refine Rt.tI ?_ | refine Rt.tB ?_ | refine Rt.tS ?_ | refine Rt.tP ?_ | refine Rt.tD ?_ | refine Rt.tM ?_ | refine Rt.tC ?_ | refine Rt.tN ?_ | refine Rt.tA ?_ | refine Rt.tG ?_ | refine Rt.tF ?_ | refine Rt.os ?_ | refine Rt.clS ?_ | refine Rt.jmN ?_ | refine Rt.jbN ?_ | refine Rt.jbE ?_)) | ((with_reducible (first | apply Rt.ld0 | apply Rt.ld1 | apply Rt.ld2 | apply Rt.ld3 | apply Rt.ld4 | apply Rt.ld5)); first | assumption | exact Lc.kp (by assumption) (by assumption)) | ((with_reducible apply Rt.ol); first | assumption | exact cell_kp (by assumption) (by assumption)) | ((with_reducible apply Rt.ckR); focus ((repeat (first | (with_reducible (first | refine Rt.fin ?_ | refine Rt.tL ?_ | refine Rt.tI ?_ | refine Rt.tB ?_ | refine Rt.tS ?_ | refine Rt.tP ?_ | refine Rt.tD ?_ | refine Rt.tM ?_ | refine Rt.tC ?_ | refine Rt.tN ?_ | refine Rt.tA ?_ | refine Rt.tG ?_ | refine Rt.tF ?_ | refine Rt.os ?_ | refine Rt.clS ?_ | refine Rt.jmN ?_ | refine Rt.jbN ?_ | refine Rt.jbE ?_)) | ((with_reducible (first | apply Rt.ld0 | apply Rt.ld1 | apply Rt.ld2 | apply Rt.ld3 | apply Rt.ld4 | apply Rt.ld5)); first | assumption | exact Lc.kp (by assumption) (by assumption)) | ((with_reducible apply Rt.ol); first | assumption | exact cell_kp (by assumption) (by assumption)))); exact Rt.some' rfl))))
  refine Rt.jb (Rt.mono (Newest_l0 (hv.kp k1) (by omega) hn60 l 0 n S w3 (by omega) (by omega) k3 hS hsk) ?_)
  rintro ⟨ex, vs, w4⟩ ⟨e1, e2, k4, S4, hS4, h4⟩
  dsimp only at e1 e2 k4 h4
  subst e1 e2
  refine .inl ⟨.inr rfl, ?_⟩
  (repeat (first | (with_reducible (first | refine Rt.fin ?_ | refine Rt.tL ?_ | refine Rt.tI ?_ | refine Rt.tB ?_ | refine Rt.tS ?_ | refine Rt.tP ?_ | refine Rt.tD ?_ | refine Rt.tM ?_ | refine Rt.tC ?_ | refine Rt.tN ?_ | refine Rt.tA ?_ | refine Rt.tG ?_ | refine Rt.tF ?_ | refine Rt.os ?_ | refine Rt.clS ?_ | refine Rt.jmN ?_ | refine Rt.jbN ?_ | refine Rt.jbE ?_)) | ((with_reducible (first | apply Rt.ld0 | apply Rt.ld1 | apply Rt.ld2 | apply Rt.ld3 | apply Rt.ld4 | apply Rt.ld5)); first | assumption | exact Lc.kp (by assumption) (by assumption)) | ((with_reducible apply Rt.ol); first | assumption | exact cell_kp (by assumption) (by assumption)) | ((with_reducible apply Rt.ckR); focus ((repeat (first | (with_reducible (first | refine Rt.fin ?_ | refine Rt.tL ?_ | refine Rt.tI ?_ | refine Rt.tB ?_ | refine Rt.tS ?_ | refine Rt.tP ?_ | refine Rt.tD ?_ | refine Rt.tM ?_ | refine Rt.tC ?_ | refine Rt.tN ?_ | refine Rt.tA ?_ | refine Rt.tG ?_ | refine Rt.tF ?_ | refine Rt.os ?_ | refine Rt.clS ?_ | refine Rt.jmN ?_ | refine Rt.jbN ?_ | refine Rt.jbE ?_)) | ((with_reducible (first | apply Rt.ld0 | apply Rt.ld1 | apply Rt.ld2 | apply Rt.ld3 | apply Rt.ld4 | apply Rt.ld5)); first | assumption | exact Lc.kp (by assumption) (by assumption)) | ((with_reducible apply Rt.ol); first | assumption | exact cell_kp (by assumption) (by assumption)))); exact Rt.some' rfl))))
  rw [i64_in _ (by omega)]
  refine Rt.iF (by omega) ?_
  obtain ⟨at0, rfl⟩ : ∃ q : Nat, at_ = (q : Int) := ⟨at_.toNat, by omega⟩
  have htm : Int.tmod (at0 : Int) ((l : Int) + 2) = ((at0 % (l + 2) : Nat) : Int) := by
    rw [show ((l : Int) + 2) = ((l + 2 : Nat) : Int) by omega]; exact (Int.ofNat_tmod at0 (l + 2)).symm
  rw [htm]
  have hq := Nat.mod_lt at0 (show 0 < l + 2 by omega)
  generalize at0 % (l + 2) = q at hq
  refine Rt.lit conv [107] 1 rfl rfl (by decide) (by decide) fun K w5 b5 k5 => ?_
  (repeat (first | (with_reducible (first | refine Rt.fin ?_ | refine Rt.tL ?_ | refine Rt.tI ?_ | refine Rt.tB ?_ | refine Rt.tS ?_ | refine Rt.tP ?_ | refine Rt.tD ?_ | refine Rt.tM ?_ | refine Rt.tC ?_ | refine Rt.tN ?_ | refine Rt.tA ?_ | refine Rt.tG ?_ | refine Rt.tF ?_ | refine Rt.os ?_ | refine Rt.clS ?_ | refine Rt.jmN ?_ | refine Rt.jbN ?_ | refine Rt.jbE ?_)) | ((with_reducible (first | apply Rt.ld0 | apply Rt.ld1 | apply Rt.ld2 | apply Rt.ld3 | apply Rt.ld4 | apply Rt.ld5)); first | assumption | exact Lc.kp (by assumption) (by assumption)) | ((with_reducible apply Rt.ol); first | assumption | exact cell_kp (by assumption) (by assumption)) | ((with_reducible apply Rt.ckR); focus ((repeat (first | (with_reducible (first | refine Rt.fin ?_ | refine Rt.tL ?_ | refine Rt.tI ?_ | refine Rt.tB ?_ | refine Rt.tS ?_ | refine Rt.tP ?_ | refine Rt.tD ?_ | refine Rt.tM ?_ | refine Rt.tC ?_ | refine Rt.tN ?_ | refine Rt.tA ?_ | refine Rt.tG ?_ | refine Rt.tF ?_ | refine Rt.os ?_ | refine Rt.clS ?_ | refine Rt.jmN ?_ | refine Rt.jbN ?_ | refine Rt.jbE ?_)) | ((with_reducible (first | apply Rt.ld0 | apply Rt.ld1 | apply Rt.ld2 | apply Rt.ld3 | apply Rt.ld4 | apply Rt.ld5)); first | assumption | exact Lc.kp (by assumption) (by assumption)) | ((with_reducible apply Rt.ol); first | assumption | exact cell_kp (by assumption) (by assumption)))); exact Rt.some' rfl))))
  rw [u64_in _ (by omega)]
  refine Rt.cOpt (Get_spec (h4.kp k5) b5 (wf64 (by omega)) hn60 (by rw [accN_len]; omega)) fun A1 l1' d1 s1 k1' C1 m1 d1' w6 hv1 k6 => ?_
  rw [get_N] at hv1 ⊢
  (repeat (first | (with_reducible (first | refine Rt.fin ?_ | refine Rt.tL ?_ | refine Rt.tI ?_ | refine Rt.tB ?_ | refine Rt.tS ?_ | refine Rt.tP ?_ | refine Rt.tD ?_ | refine Rt.tM ?_ | refine Rt.tC ?_ | refine Rt.tN ?_ | refine Rt.tA ?_ | refine Rt.tG ?_ | refine Rt.tF ?_ | refine Rt.os ?_ | refine Rt.clS ?_ | refine Rt.jmN ?_ | refine Rt.jbN ?_ | refine Rt.jbE ?_)) | ((with_reducible (first | apply Rt.ld0 | apply Rt.ld1 | apply Rt.ld2 | apply Rt.ld3 | apply Rt.ld4 | apply Rt.ld5)); first | assumption | exact Lc.kp (by assumption) (by assumption)) | ((with_reducible apply Rt.ol); first | assumption | exact cell_kp (by assumption) (by assumption)) | ((with_reducible apply Rt.ckR); focus ((repeat (first | (with_reducible (first | refine Rt.fin ?_ | refine Rt.tL ?_ | refine Rt.tI ?_ | refine Rt.tB ?_ | refine Rt.tS ?_ | refine Rt.tP ?_ | refine Rt.tD ?_ | refine Rt.tM ?_ | refine Rt.tC ?_ | refine Rt.tN ?_ | refine Rt.tA ?_ | refine Rt.tG ?_ | refine Rt.tF ?_ | refine Rt.os ?_ | refine Rt.clS ?_ | refine Rt.jmN ?_ | refine Rt.jbN ?_ | refine Rt.jbE ?_)) | ((with_reducible (first | apply Rt.ld0 | apply Rt.ld1 | apply Rt.ld2 | apply Rt.ld3 | apply Rt.ld4 | apply Rt.ld5)); first | assumption | exact Lc.kp (by assumption) (by assumption)) | ((with_reducible apply Rt.ol); first | assumption | exact cell_kp (by assumption) (by assumption)))); exact Rt.some' rfl))))
  refine Rt.al4 fun w7 l7 k7 s7 => ?_
  have kk := (((k1.tr k4).tr k5).tr k6).tr k7
  have kd := kk.dr
  have l7d := l7.kp (Kp.rfl' w7).dr
  refine Rt.cQ (fun e => ?_) fun e => ?_
  · have : q = 0 := by omega
    subst this
    exact Rt.endB (by simp) kk
  · rw [if_neg (by omega)] at hv1 ⊢
    have hfin : ∀ r : Nat, r = min q l → 1 ≤ r → Rt (cond (s1 == IntKind.u64.wrap (r : Int)) (some (⟨.ret, [.bool true], w7⟩ : Res)) (some (⟨.ret, [.bool false], w7⟩ : Res))) fun r => True := fun r hr h1 => Rt.cB (fun _ => Rt.some' trivial) fun _ => Rt.some' trivial
    have hs1 : s1 = ((min q l - 1 + 1 : Nat) : Int) := hv1.seq
    have hk1 : k1' = kdN hs (min q l - 1) := hv1.kind
    refine Rt.jm (Rt.mono (Q' := fun r => r = ⟨.norm, [.slice A l c, .int .i64 ((min q l : Nat) : Int), .pointer (some ⟨w6.heap.size, 0, none⟩), .bool true], w7⟩) (Rt.cD (fun hql => Rt.some' ?_) fun hql => Rt.some' ?_) ?_)
    · rw [Nat.min_eq_right (by omega)]; rfl
    · rw [Nat.min_eq_left (by omega)]; rfl
    · rintro r rfl
      refine ⟨rfl, ?_⟩
      dsimp only
      (repeat (first | (with_reducible (first | refine Rt.fin ?_ | refine Rt.tL ?_ | refine Rt.tI ?_ | refine Rt.tB ?_ | refine Rt.tS ?_ | refine Rt.tP ?_ | refine Rt.tD ?_ | refine Rt.tM ?_ | refine Rt.tC ?_ | refine Rt.tN ?_ | refine Rt.tA ?_ | refine Rt.tG ?_ | refine Rt.tF ?_ | refine Rt.os ?_ | refine Rt.clS ?_ | refine Rt.jmN ?_ | refine Rt.jbN ?_ | refine Rt.jbE ?_)) | ((with_reducible (first | apply Rt.ld0 | apply Rt.ld1 | apply Rt.ld2 | apply Rt.ld3 | apply Rt.ld4 | apply Rt.ld5)); first | assumption | exact Lc.kp (by assumption) (by assumption)) | ((with_reducible apply Rt.ol); first | assumption | exact cell_kp (by assumption) (by assumption)) | ((with_reducible apply Rt.ckR); focus ((repeat (first | (with_reducible (first | refine Rt.fin ?_ | refine Rt.tL ?_ | refine Rt.tI ?_ | refine Rt.tB ?_ | refine Rt.tS ?_ | refine Rt.tP ?_ | refine Rt.tD ?_ | refine Rt.tM ?_ | refine Rt.tC ?_ | refine Rt.tN ?_ | refine Rt.tA ?_ | refine Rt.tG ?_ | refine Rt.tF ?_ | refine Rt.os ?_ | refine Rt.clS ?_ | refine Rt.jmN ?_ | refine Rt.jbN ?_ | refine Rt.jbE ?_)) | ((with_reducible (first | apply Rt.ld0 | apply Rt.ld1 | apply Rt.ld2 | apply Rt.ld3 | apply Rt.ld4 | apply Rt.ld5)); first | assumption | exact Lc.kp (by assumption) (by assumption)) | ((with_reducible apply Rt.ol); first | assumption | exact cell_kp (by assumption) (by assumption)))); exact Rt.some' rfl))))
      refine Rt.cT rfl ?_
      (repeat (first | (with_reducible (first | refine Rt.fin ?_ | refine Rt.tL ?_ | refine Rt.tI ?_ | refine Rt.tB ?_ | refine Rt.tS ?_ | refine Rt.tP ?_ | refine Rt.tD ?_ | refine Rt.tM ?_ | refine Rt.tC ?_ | refine Rt.tN ?_ | refine Rt.tA ?_ | refine Rt.tG ?_ | refine Rt.tF ?_ | refine Rt.os ?_ | refine Rt.clS ?_ | refine Rt.jmN ?_ | refine Rt.jbN ?_ | refine Rt.jbE ?_)) | ((with_reducible (first | apply Rt.ld0 | apply Rt.ld1 | apply Rt.ld2 | apply Rt.ld3 | apply Rt.ld4 | apply Rt.ld5)); first | assumption | exact Lc.kp (by assumption) (by assumption)) | ((with_reducible apply Rt.ol); first | assumption | exact cell_kp (by assumption) (by assumption)) | ((with_reducible apply Rt.ckR); focus ((repeat (first | (with_reducible (first | refine Rt.fin ?_ | refine Rt.tL ?_ | refine Rt.tI ?_ | refine Rt.tB ?_ | refine Rt.tS ?_ | refine Rt.tP ?_ | refine Rt.tD ?_ | refine Rt.tM ?_ | refine Rt.tC ?_ | refine Rt.tN ?_ | refine Rt.tA ?_ | refine Rt.tG ?_ | refine Rt.tF ?_ | refine Rt.os ?_ | refine Rt.clS ?_ | refine Rt.jmN ?_ | refine Rt.jbN ?_ | refine Rt.jbE ?_)) | ((with_reducible (first | apply Rt.ld0 | apply Rt.ld1 | apply Rt.ld2 | apply Rt.ld3 | apply Rt.ld4 | apply Rt.ld5)); first | assumption | exact Lc.kp (by assumption) (by assumption)) | ((with_reducible apply Rt.ol); first | assumption | exact cell_kp (by assumption) (by assumption)))); exact Rt.some' rfl))))
      rw [u64_in _ (by omega), i64_in _ (by omega)]
      refine Rt.cT (by rw [hs1]; simp; omega) ?_
      (repeat (first | (with_reducible (first | refine Rt.fin ?_ | refine Rt.tL ?_ | refine Rt.tI ?_ | refine Rt.tB ?_ | refine Rt.tS ?_ | refine Rt.tP ?_ | refine Rt.tD ?_ | refine Rt.tM ?_ | refine Rt.tC ?_ | refine Rt.tN ?_ | refine Rt.tA ?_ | refine Rt.tG ?_ | refine Rt.tF ?_ | refine Rt.os ?_ | refine Rt.clS ?_ | refine Rt.jmN ?_ | refine Rt.jbN ?_ | refine Rt.jbE ?_)) | ((with_reducible (first | apply Rt.ld0 | apply Rt.ld1 | apply Rt.ld2 | apply Rt.ld3 | apply Rt.ld4 | apply Rt.ld5)); first | assumption | exact Lc.kp (by assumption) (by assumption)) | ((with_reducible apply Rt.ol); first | assumption | exact cell_kp (by assumption) (by assumption)) | ((with_reducible apply Rt.ckR); focus ((repeat (first | (with_reducible (first | refine Rt.fin ?_ | refine Rt.tL ?_ | refine Rt.tI ?_ | refine Rt.tB ?_ | refine Rt.tS ?_ | refine Rt.tP ?_ | refine Rt.tD ?_ | refine Rt.tM ?_ | refine Rt.tC ?_ | refine Rt.tN ?_ | refine Rt.tA ?_ | refine Rt.tG ?_ | refine Rt.tF ?_ | refine Rt.os ?_ | refine Rt.clS ?_ | refine Rt.jmN ?_ | refine Rt.jbN ?_ | refine Rt.jbE ?_)) | ((with_reducible (first | apply Rt.ld0 | apply Rt.ld1 | apply Rt.ld2 | apply Rt.ld3 | apply Rt.ld4 | apply Rt.ld5)); first | assumption | exact Lc.kp (by assumption) (by assumption)) | ((with_reducible apply Rt.ol); first | assumption | exact cell_kp (by assumption) (by assumption)))); exact Rt.some' rfl))))
      refine Rt.ix (hv.kp kd).sl (by omega) (by omega) (Rt.endB ?_ kd)
      rw [hk1]
      have : (((min q l : Nat) : Int) - 1).toNat = min q l - 1 := by omega
      rw [this]
      simp [kdN]
end
end Go.Proofs.Ytoilmnplocfipaa.Sk
