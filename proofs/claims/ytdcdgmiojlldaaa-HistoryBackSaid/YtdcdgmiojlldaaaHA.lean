/- History: rows of bytes; operations in memory of their own. -/
import Derived.Test.YtdcdgmiojlldaaaH9
import Derived.Laws.IdiomStrings
import Derived.Test.YtdcdgmiojlldaaaMM
namespace Go.Proofs.Ytdcdgmiojlldaaa.Hi
open Go Big Go.RowKit Go.IntWalk
set_option linter.unusedVariables false
set_option linter.unusedSimpArgs false
theorem slB : ∃ i, SlT Try.prog 23 5 .u8 i := slT (by kernel_rfl)
theorem slO : ∃ i v, SlTE Try.prog 28 38 3 i v := slTE (by kernel_rfl)
theorem slL : ∃ i v, SlTE Try.prog 22 28 1 i v := slTE (by kernel_rfl)
theorem slP : ∃ i v, SlTE Try.prog 30 33 2 i v := slTE (by kernel_rfl)
def Bytes (xs : List Int) : Prop := ∀ x ∈ xs, (Lit.int .u8 x).wf = true
structure OpD where
  kind : Int
  key : List Int
  val : List Int
def opEl : El OpD where
  sz := 3
  rd w vs x := ∃ A l c B m d, vs = [.int .i64 x.kind, .slice A l c, .slice B m d] ∧ Bv .u8 w A l c x.key ∧ Bv .u8 w B m d x.val
  kp := fun hk ⟨A, l, c, B, m, d, e, h1, h2⟩ => ⟨A, l, c, B, m, d, e, h1.kp hk, h2.kp hk⟩
  one := fun {w vs x} ⟨A, l, c, B, m, d, e, _, _⟩ u hu => by subst e; simp only [List.mem_cons, List.not_mem_nil, or_false] at hu; rcases hu with rfl | rfl | rfl <;> rfl
def opsEl : El (List OpD) where
  sz := 1
  rd w vs x := ∃ B k d, vs = [.slice B k d] ∧ Ev opEl w B k d x
  kp := fun hk ⟨B, k, d, e, h⟩ => ⟨B, k, d, e, h.kp hk⟩
  one := fun {w vs x} ⟨B, k, d, e, _⟩ u hu => by subst e; simp only [List.mem_cons, List.not_mem_nil, or_false] at hu; subst hu; rfl
section
variable {α : Type} {Q : α → Prop} {n m base mb : Nat} {w w' w0 w1 ws : World} {A B C D : Option Addr} {l c m1 d1 m2 d2 d : Nat} {bs cs : List Int} {ops xs : List OpD} {S T : Nat → Prop}
theorem Clone_spec (hx : Bv .u8 w A l c bs) (hl : l ≤ 2 ^ 38) : Rt (bytes_Clone n [.slice A l c] w) (RO .u8 5 w bs) := by
  obtain ⟨t, hT⟩ := slB
  have hxl := hx.len
  rw [bytes_Clone_eq]
  cases A with
  | none =>
    obtain ⟨rfl, rfl⟩ := hx.nil rfl
    have : bs = [] := List.length_eq_zero_iff.1 hxl
    subst this
    exact Rt.fin (Rt.cT rfl (Rt.endO (Own.nil w _) (Nat.le_refl _) (Kp.rfl' w)))
  | some a =>
    refine Rt.fin (Rt.cF rfl (Rt.alo (k := .u8) [] 0 rfl rfl (by decide) fun w1 o1 k1 => ?_))
    refine Rt.app hT o1 (hx.kp k1).sl hx.nil (by simp; omega) k1.size fun C d w2 o2 hk2 _ hs2 => ?_
    (repeat (first | (with_reducible (first | refine Rt.fin ?_ | refine Rt.tL ?_ | refine Rt.tI ?_ | refine Rt.tB ?_ | refine Rt.tS ?_ | refine Rt.tP ?_ | refine Rt.tD ?_ | refine Rt.tM ?_ | refine Rt.tC ?_ | refine Rt.tN ?_ | refine Rt.tA ?_ | refine Rt.tG ?_ | refine Rt.tF ?_ | refine Rt.os ?_ | refine Rt.clS ?_ | refine Rt.jmN ?_ | refine Rt.jbN ?_ | refine Rt.jbE ?_)) | ((with_reducible (first | apply Rt.ld0 | apply Rt.ld1 | apply Rt.ld2 | apply Rt.ld3 | apply Rt.ld4 | apply Rt.ld5)); first | assumption | exact Lc.kp (by assumption) (by assumption)) | ((with_reducible apply Rt.ol); first | assumption | exact cell_kp (by assumption) (by assumption)) | ((with_reducible apply Rt.ckR); focus ((repeat (first | (with_reducible (first | refine Rt.fin ?_ | refine Rt.tL ?_ | refine Rt.tI ?_ | refine Rt.tB ?_ | refine Rt.tS ?_ | refine Rt.tP ?_ | refine Rt.tD ?_ | refine Rt.tM ?_ | refine Rt.tC ?_ | refine Rt.tN ?_ | refine Rt.tA ?_ | refine Rt.tG ?_ | refine Rt.tF ?_ | refine Rt.os ?_ | refine Rt.clS ?_ | refine Rt.jmN ?_ | refine Rt.jbN ?_ | refine Rt.jbE ?_)) | ((with_reducible (first | apply Rt.ld0 | apply Rt.ld1 | apply Rt.ld2 | apply Rt.ld3 | apply Rt.ld4 | apply Rt.ld5)); first | assumption | exact Lc.kp (by assumption) (by assumption)) | ((with_reducible apply Rt.ol); first | assumption | exact cell_kp (by assumption) (by assumption)))); exact Rt.some' rfl))))
    exact Rt.endO o2 (Nat.le_refl _) (hk2 w k1 (Nat.le_refl _))
/-- Bytes of the call's own stay while other blocks turn. -/
theorem Own.stb' {k : IntKind} {e : TypeId} {v : Value} {xs : List Int} (h : Own k e w base (.slice A l c) xs) (hr : ∀ x ∈ xs, (Lit.int k x).wf = true) (hn : ∀ j, On (.slice A l c) j → ¬ S j) : Stb S (fun w => Bv k w A l c xs) w := fun w' hg => (h.gx hg hn).bv hr
theorem Rt.ixOp (hs : SlE opEl ws A l xs) (hk : Kp ws w) {i : Int} (h0 : 0 ≤ i) (h1 : i < l) {g : Addr → Option α}
    (h : ∀ x a B m d C k e, xs[i.toNat]? = some x → Bv .u8 ws B m d x.key → Bv .u8 ws C k e x.val → w.cell? a = some (.int .i64 x.kind) → w.cell? (a.add 1) = some (.slice B m d) → w.cell? (a.add 2) = some (.slice C k e) → Rt (g a) Q) : Rt (ixA A l i 3 g) Q := by
  refine Rt.ixe (E := opEl) hs rfl h0 h1 fun y a us e1 _ e3 e4 => ?_
  obtain ⟨B, m, d, C, k, e, rfl, hb, hc⟩ := e3
  have c0 := e4 0 _ rfl
  rw [Addr.add_zero'] at c0
  exact h y a B m d C k e e1 hb hc (cell_kp c0 hk) (cell_kp (e4 1 _ rfl) hk) (cell_kp (e4 2 _ rfl) hk)
theorem own_l0 (hx : Ev opEl w0 B l d xs) (hl : l ≤ 2 ^ 20) (hb : ∀ x ∈ xs, x.key.length ≤ 2 ^ 20 ∧ x.val.length ≤ 2 ^ 20) : ∀ (q i m : Nat) (A : Option Addr) (c : Nat) (w : World), i + q = l → q < m → Kp w0 w → OwnX (fun j => j < w0.heap.size) opEl 38 w w0.heap.size (.slice A i c) (xs.take i) →
    Rt (history_own.l0 n m A i c B l d (l : Int) (i : Int) w) fun y => ∃ A c w', y = ⟨.exit 0, [.slice A l c], w'⟩ ∧ Kp w0 w' ∧ OwnX (fun j => j < w0.heap.size) opEl 38 w' w0.heap.size (.slice A l c) xs := by
  obtain ⟨t, z, hT⟩ := slO
  have hxl := hx.len
  intro q
  induction q with
  | zero =>
    intro i m A c w hi hm hk ho
    obtain ⟨m, rfl⟩ : ∃ m', m = m' + 1 := ⟨m - 1, by omega⟩
    rw [history_own.l0_succ]
    rw [List.take_of_length_le (by omega)] at ho
    obtain rfl : i = l := by omega
    exact Rt.cDF (by omega) (Rt.some' ⟨A, c, w, rfl, hk, ho⟩)
  | succ q ih =>
    intro i m A c w hi hm hk ho
    obtain ⟨m, rfl⟩ : ∃ m', m = m' + 1 := ⟨m - 1, by omega⟩
    rw [history_own.l0_succ]
    refine Rt.cDT (by omega) (Rt.ixOp hx.sl hk (by omega) (by omega) fun x a B1 m1 d1 C1 k1 e1 ex hb1 hc1 g0 g1 g2 => ?_)
    rw [Int.toNat_natCast] at ex
    have hxm := hb x (List.mem_of_getElem? ex)
    have hbl := hb1.len
    have hcl := hc1.len
    (repeat (first | (with_reducible (first | refine Rt.fin ?_ | refine Rt.tL ?_ | refine Rt.tI ?_ | refine Rt.tB ?_ | refine Rt.tS ?_ | refine Rt.tP ?_ | refine Rt.tD ?_ | refine Rt.tM ?_ | refine Rt.tC ?_ | refine Rt.tN ?_ | refine Rt.tA ?_ | refine Rt.tG ?_ | refine Rt.tF ?_ | refine Rt.os ?_ | refine Rt.clS ?_ | refine Rt.jmN ?_ | refine Rt.jbN ?_ | refine Rt.jbE ?_)) | ((with_reducible (first | apply Rt.ld0 | apply Rt.ld1 | apply Rt.ld2 | apply Rt.ld3 | apply Rt.ld4 | apply Rt.ld5)); first | assumption | exact Lc.kp (by assumption) (by assumption)) | ((with_reducible apply Rt.ol); first | assumption | exact cell_kp (by assumption) (by assumption)) | ((with_reducible apply Rt.ckR); focus ((repeat (first | (with_reducible (first | refine Rt.fin ?_ | refine Rt.tL ?_ | refine Rt.tI ?_ | refine Rt.tB ?_ | refine Rt.tS ?_ | refine Rt.tP ?_ | refine Rt.tD ?_ | refine Rt.tM ?_ | refine Rt.tC ?_ | refine Rt.tN ?_ | refine Rt.tA ?_ | refine Rt.tG ?_ | refine Rt.tF ?_ | refine Rt.os ?_ | refine Rt.clS ?_ | refine Rt.jmN ?_ | refine Rt.jbN ?_ | refine Rt.jbE ?_)) | ((with_reducible (first | apply Rt.ld0 | apply Rt.ld1 | apply Rt.ld2 | apply Rt.ld3 | apply Rt.ld4 | apply Rt.ld5)); first | assumption | exact Lc.kp (by assumption) (by assumption)) | ((with_reducible apply Rt.ol); first | assumption | exact cell_kp (by assumption) (by assumption)))); exact Rt.some' rfl))))
    refine Rt.al3 fun w1 l1 k1' s1 => ?_
    have hk1 := hk.tr k1'
    have kd : Kp w1 w1.drew := (Kp.rfl' w1).dr
    have l1d := l1.kp kd
    have hk1d := hk1.tr kd
    clear g0 g1 g2
    (repeat (first | (with_reducible (first | refine Rt.fin ?_ | refine Rt.tL ?_ | refine Rt.tI ?_ | refine Rt.tB ?_ | refine Rt.tS ?_ | refine Rt.tP ?_ | refine Rt.tD ?_ | refine Rt.tM ?_ | refine Rt.tC ?_ | refine Rt.tN ?_ | refine Rt.tA ?_ | refine Rt.tG ?_ | refine Rt.tF ?_ | refine Rt.os ?_ | refine Rt.clS ?_ | refine Rt.jmN ?_ | refine Rt.jbN ?_ | refine Rt.jbE ?_)) | ((with_reducible (first | apply Rt.ld0 | apply Rt.ld1 | apply Rt.ld2 | apply Rt.ld3 | apply Rt.ld4 | apply Rt.ld5)); first | assumption | exact Lc.kp (by assumption) (by assumption)) | ((with_reducible apply Rt.ol); first | assumption | exact cell_kp (by assumption) (by assumption)) | ((with_reducible apply Rt.ckR); focus ((repeat (first | (with_reducible (first | refine Rt.fin ?_ | refine Rt.tL ?_ | refine Rt.tI ?_ | refine Rt.tB ?_ | refine Rt.tS ?_ | refine Rt.tP ?_ | refine Rt.tD ?_ | refine Rt.tM ?_ | refine Rt.tC ?_ | refine Rt.tN ?_ | refine Rt.tA ?_ | refine Rt.tG ?_ | refine Rt.tF ?_ | refine Rt.os ?_ | refine Rt.clS ?_ | refine Rt.jmN ?_ | refine Rt.jbN ?_ | refine Rt.jbE ?_)) | ((with_reducible (first | apply Rt.ld0 | apply Rt.ld1 | apply Rt.ld2 | apply Rt.ld3 | apply Rt.ld4 | apply Rt.ld5)); first | assumption | exact Lc.kp (by assumption) (by assumption)) | ((with_reducible apply Rt.ol); first | assumption | exact cell_kp (by assumption) (by assumption)))); exact Rt.some' rfl))))
    refine Rt.cO (Clone_spec (n := n) (hb1.kp hk1d) (by omega)) fun C2 d2 w2 o2 k2 => ?_
    have l2 := l1d.kp k2
    have hk2 := hk1d.tr k2
    (repeat (first | (with_reducible (first | refine Rt.fin ?_ | refine Rt.tL ?_ | refine Rt.tI ?_ | refine Rt.tB ?_ | refine Rt.tS ?_ | refine Rt.tP ?_ | refine Rt.tD ?_ | refine Rt.tM ?_ | refine Rt.tC ?_ | refine Rt.tN ?_ | refine Rt.tA ?_ | refine Rt.tG ?_ | refine Rt.tF ?_ | refine Rt.os ?_ | refine Rt.clS ?_ | refine Rt.jmN ?_ | refine Rt.jbN ?_ | refine Rt.jbE ?_)) | ((with_reducible (first | apply Rt.ld0 | apply Rt.ld1 | apply Rt.ld2 | apply Rt.ld3 | apply Rt.ld4 | apply Rt.ld5)); first | assumption | exact Lc.kp (by assumption) (by assumption)) | ((with_reducible apply Rt.ol); first | assumption | exact cell_kp (by assumption) (by assumption)) | ((with_reducible apply Rt.ckR); focus ((repeat (first | (with_reducible (first | refine Rt.fin ?_ | refine Rt.tL ?_ | refine Rt.tI ?_ | refine Rt.tB ?_ | refine Rt.tS ?_ | refine Rt.tP ?_ | refine Rt.tD ?_ | refine Rt.tM ?_ | refine Rt.tC ?_ | refine Rt.tN ?_ | refine Rt.tA ?_ | refine Rt.tG ?_ | refine Rt.tF ?_ | refine Rt.os ?_ | refine Rt.clS ?_ | refine Rt.jmN ?_ | refine Rt.jbN ?_ | refine Rt.jbE ?_)) | ((with_reducible (first | apply Rt.ld0 | apply Rt.ld1 | apply Rt.ld2 | apply Rt.ld3 | apply Rt.ld4 | apply Rt.ld5)); first | assumption | exact Lc.kp (by assumption) (by assumption)) | ((with_reducible apply Rt.ol); first | assumption | exact cell_kp (by assumption) (by assumption)))); exact Rt.some' rfl))))
    refine Rt.cO (Clone_spec (n := n) (hc1.kp hk2) (by omega)) fun C3 d3 w3 o3 k3 => ?_
    have l3 := l2.kp k3
    have hk3 := hk2.tr k3
    (repeat (first | (with_reducible (first | refine Rt.fin ?_ | refine Rt.tL ?_ | refine Rt.tI ?_ | refine Rt.tB ?_ | refine Rt.tS ?_ | refine Rt.tP ?_ | refine Rt.tD ?_ | refine Rt.tM ?_ | refine Rt.tC ?_ | refine Rt.tN ?_ | refine Rt.tA ?_ | refine Rt.tG ?_ | refine Rt.tF ?_ | refine Rt.os ?_ | refine Rt.clS ?_ | refine Rt.jmN ?_ | refine Rt.jbN ?_ | refine Rt.jbE ?_)) | ((with_reducible (first | apply Rt.ld0 | apply Rt.ld1 | apply Rt.ld2 | apply Rt.ld3 | apply Rt.ld4 | apply Rt.ld5)); first | assumption | exact Lc.kp (by assumption) (by assumption)) | ((with_reducible apply Rt.ol); first | assumption | exact cell_kp (by assumption) (by assumption)) | ((with_reducible apply Rt.ckR); focus ((repeat (first | (with_reducible (first | refine Rt.fin ?_ | refine Rt.tL ?_ | refine Rt.tI ?_ | refine Rt.tB ?_ | refine Rt.tS ?_ | refine Rt.tP ?_ | refine Rt.tD ?_ | refine Rt.tM ?_ | refine Rt.tC ?_ | refine Rt.tN ?_ | refine Rt.tA ?_ | refine Rt.tG ?_ | refine Rt.tF ?_ | refine Rt.os ?_ | refine Rt.clS ?_ | refine Rt.jmN ?_ | refine Rt.jbN ?_ | refine Rt.jbE ?_)) | ((with_reducible (first | apply Rt.ld0 | apply Rt.ld1 | apply Rt.ld2 | apply Rt.ld3 | apply Rt.ld4 | apply Rt.ld5)); first | assumption | exact Lc.kp (by assumption) (by assumption)) | ((with_reducible apply Rt.ol); first | assumption | exact cell_kp (by assumption) (by assumption)))); exact Rt.some' rfl))))
    refine Rt.st1 l3 fun w4 l4 g4 => Rt.st2 l4 fun w5 l5 g5 => ?_
    (repeat (first | (with_reducible (first | refine Rt.fin ?_ | refine Rt.tL ?_ | refine Rt.tI ?_ | refine Rt.tB ?_ | refine Rt.tS ?_ | refine Rt.tP ?_ | refine Rt.tD ?_ | refine Rt.tM ?_ | refine Rt.tC ?_ | refine Rt.tN ?_ | refine Rt.tA ?_ | refine Rt.tG ?_ | refine Rt.tF ?_ | refine Rt.os ?_ | refine Rt.clS ?_ | refine Rt.jmN ?_ | refine Rt.jbN ?_ | refine Rt.jbE ?_)) | ((with_reducible (first | apply Rt.ld0 | apply Rt.ld1 | apply Rt.ld2 | apply Rt.ld3 | apply Rt.ld4 | apply Rt.ld5)); first | assumption | exact Lc.kp (by assumption) (by assumption)) | ((with_reducible apply Rt.ol); first | assumption | exact cell_kp (by assumption) (by assumption)) | ((with_reducible apply Rt.ckR); focus ((repeat (first | (with_reducible (first | refine Rt.fin ?_ | refine Rt.tL ?_ | refine Rt.tI ?_ | refine Rt.tB ?_ | refine Rt.tS ?_ | refine Rt.tP ?_ | refine Rt.tD ?_ | refine Rt.tM ?_ | refine Rt.tC ?_ | refine Rt.tN ?_ | refine Rt.tA ?_ | refine Rt.tG ?_ | refine Rt.tF ?_ | refine Rt.os ?_ | refine Rt.clS ?_ | refine Rt.jmN ?_ | refine Rt.jbN ?_ | refine Rt.jbE ?_)) | ((with_reducible (first | apply Rt.ld0 | apply Rt.ld1 | apply Rt.ld2 | apply Rt.ld3 | apply Rt.ld4 | apply Rt.ld5)); first | assumption | exact Lc.kp (by assumption) (by assumption)) | ((with_reducible apply Rt.ol); first | assumption | exact cell_kp (by assumption) (by assumption)))); exact Rt.some' rfl))))
    have hz1 := k1'.size
    have hz1d : w1.heap.size = w1.drew.heap.size := rfl
    have hz2 := k2.size
    have hz3 := k3.size
    have g45 := g4.tr g5
    have hk5 : Kp w0 w5 := hk3.tx g45 fun j hj => by have hj : j = w.heap.size := hj; have := hk.size; omega
    have k05 : Kp w w5 := (((k1'.tr kd).tr k2).tr k3).tx g45 fun j hj => by have hj : j = w.heap.size := hj; omega
    have ho5 := ho.kp k05
    have holt := ho.lt
    have hz5 := k05.size
    have o2lt := o2.lt
    have o3lt := o3.lt
    have o2' := (o2.kp k3).gx g45 fun j hj e => by have e : j = w.heap.size := e; have := (o2lt j hj).1; omega
    have o3' := o3.gx g45 fun j hj e => by have e : j = w.heap.size := e; have := (o3lt j hj).1; omega
    have hz0 := hk.size
    have hti : (xs.take i).length = i := by rw [List.length_take]; omega
    refine Rt.app1X (E := opEl) (x := x) (us := [.int .i64 x.kind, .slice C2 x.key.length d2, .slice C3 x.val.length d3]) rfl hT ho5 rfl (fun w6 g6 => ⟨_, _, _, _, _, _, rfl, (o2'.gx g6 fun j hj e => ?_).bv hb1.rng, (o3'.gx g6 fun j hj e => ?_).bv hc1.rng⟩) (by omega) (by omega) fun A6 c6 w6 o6 g6 s6 => ?_
    · have := (o2lt j hj).1
      rcases e with e | e
      · omega
      · have := (holt j e).2; omega
    · have := (o3lt j hj).1
      rcases e with e | e
      · omega
      · have := (holt j e).2; omega
    rw [hti] at o6
    rw [hti]
    (repeat (first | (with_reducible (first | refine Rt.fin ?_ | refine Rt.tL ?_ | refine Rt.tI ?_ | refine Rt.tB ?_ | refine Rt.tS ?_ | refine Rt.tP ?_ | refine Rt.tD ?_ | refine Rt.tM ?_ | refine Rt.tC ?_ | refine Rt.tN ?_ | refine Rt.tA ?_ | refine Rt.tG ?_ | refine Rt.tF ?_ | refine Rt.os ?_ | refine Rt.clS ?_ | refine Rt.jmN ?_ | refine Rt.jbN ?_ | refine Rt.jbE ?_)) | ((with_reducible (first | apply Rt.ld0 | apply Rt.ld1 | apply Rt.ld2 | apply Rt.ld3 | apply Rt.ld4 | apply Rt.ld5)); first | assumption | exact Lc.kp (by assumption) (by assumption)) | ((with_reducible apply Rt.ol); first | assumption | exact cell_kp (by assumption) (by assumption)) | ((with_reducible apply Rt.ckR); focus ((repeat (first | (with_reducible (first | refine Rt.fin ?_ | refine Rt.tL ?_ | refine Rt.tI ?_ | refine Rt.tB ?_ | refine Rt.tS ?_ | refine Rt.tP ?_ | refine Rt.tD ?_ | refine Rt.tM ?_ | refine Rt.tC ?_ | refine Rt.tN ?_ | refine Rt.tA ?_ | refine Rt.tG ?_ | refine Rt.tF ?_ | refine Rt.os ?_ | refine Rt.clS ?_ | refine Rt.jmN ?_ | refine Rt.jbN ?_ | refine Rt.jbE ?_)) | ((with_reducible (first | apply Rt.ld0 | apply Rt.ld1 | apply Rt.ld2 | apply Rt.ld3 | apply Rt.ld4 | apply Rt.ld5)); first | assumption | exact Lc.kp (by assumption) (by assumption)) | ((with_reducible apply Rt.ol); first | assumption | exact cell_kp (by assumption) (by assumption)))); exact Rt.some' rfl))))
    rw [i64_in _ (by omega), show ((i : Int) + 1) = ((i + 1 : Nat) : Int) by omega]
    have htk : xs.take (i + 1) = xs.take i ++ [x] := by rw [List.take_add_one, ex]; rfl
    rw [← htk] at o6
    exact ih (i + 1) m A6 c6 w6 (by omega) (by omega) (hk5.tx g6 fun j hj => (holt j hj).1) o6
theorem own_spec (hx : Ev opEl w B l d xs) (hl : l ≤ 2 ^ 20) (hb : ∀ x ∈ xs, x.key.length ≤ 2 ^ 20 ∧ x.val.length ≤ 2 ^ 20) (hn : 2 ^ 60 < n) : Rt (history_own n [.slice B l d] w) fun y => ∃ A c w', y = ([.slice A l c], w') ∧ Kp w w' ∧ OwnX (fun j => j < w.heap.size) opEl 38 w' w.heap.size (.slice A l c) xs := by
  rw [history_own_eq]
  refine Rt.fin (Rt.jb (Rt.mono (own_l0 (n := n) hx hl hb l 0 n none 0 w (by omega) (by omega) (Kp.rfl' w) (OwnX.nil _ _ _)) ?_))
  rintro _ ⟨A, c, w1, rfl, k1, o1⟩
  refine .inl ⟨.inr rfl, ?_⟩
  (repeat (first | (with_reducible (first | refine Rt.fin ?_ | refine Rt.tL ?_ | refine Rt.tI ?_ | refine Rt.tB ?_ | refine Rt.tS ?_ | refine Rt.tP ?_ | refine Rt.tD ?_ | refine Rt.tM ?_ | refine Rt.tC ?_ | refine Rt.tN ?_ | refine Rt.tA ?_ | refine Rt.tG ?_ | refine Rt.tF ?_ | refine Rt.os ?_ | refine Rt.clS ?_ | refine Rt.jmN ?_ | refine Rt.jbN ?_ | refine Rt.jbE ?_)) | ((with_reducible (first | apply Rt.ld0 | apply Rt.ld1 | apply Rt.ld2 | apply Rt.ld3 | apply Rt.ld4 | apply Rt.ld5)); first | assumption | exact Lc.kp (by assumption) (by assumption)) | ((with_reducible apply Rt.ol); first | assumption | exact cell_kp (by assumption) (by assumption)) | ((with_reducible apply Rt.ckR); focus ((repeat (first | (with_reducible (first | refine Rt.fin ?_ | refine Rt.tL ?_ | refine Rt.tI ?_ | refine Rt.tB ?_ | refine Rt.tS ?_ | refine Rt.tP ?_ | refine Rt.tD ?_ | refine Rt.tM ?_ | refine Rt.tC ?_ | refine Rt.tN ?_ | refine Rt.tA ?_ | refine Rt.tG ?_ | refine Rt.tF ?_ | refine Rt.os ?_ | refine Rt.clS ?_ | refine Rt.jmN ?_ | refine Rt.jbN ?_ | refine Rt.jbE ?_)) | ((with_reducible (first | apply Rt.ld0 | apply Rt.ld1 | apply Rt.ld2 | apply Rt.ld3 | apply Rt.ld4 | apply Rt.ld5)); first | assumption | exact Lc.kp (by assumption) (by assumption)) | ((with_reducible apply Rt.ol); first | assumption | exact cell_kp (by assumption) (by assumption)))); exact Rt.some' rfl))))
  exact Rt.some' ⟨rfl, A, c, w1, rfl, k1, o1⟩
end
end Go.Proofs.Ytdcdgmiojlldaaa.Hi
