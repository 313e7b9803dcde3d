/- Drop: what stays of one user key; Keep. -/
import Derived.Test.YtoilmnplocfipaaD0
import Derived.Test.YtoilmnplocfipaaM9
namespace Go.Proofs.Ytoilmnplocfipaa.Dr
open Go Big Go.RowKit Go.IntWalk Ik
set_option linter.unusedVariables false
set_option linter.unusedSimpArgs false
def lastE : En → List En → En
  | p, [] => p
  | _, y :: l => lastE y l
theorem lastE_at : ∀ (l : List En) (p q : En), (p :: l)[l.length]? = some q → lastE p l = q
  | [], p, q, h => by simpa [lastE] using h
  | y :: l, p, q, h => lastE_at l y q (by simpa using h)
theorem stayR_snoc (ss : List Int) (y : En) : ∀ (l : List En) (p : En), stayR ss p (l ++ [y]) = stayR ss p l ++ if seenP ss y.seq (lastE p l).seq then [y] else []
  | [], p => rfl
  | z :: l, p => by
    have ih := stayR_snoc ss y l z
    show (if seenP ss z.seq p.seq then z :: stayR ss z (l ++ [y]) else stayR ss z (l ++ [y])) = (if seenP ss z.seq p.seq then z :: stayR ss z l else stayR ss z l) ++ (if seenP ss y.seq (lastE z l).seq then [y] else [])
    rw [ih]
    by_cases h : seenP ss z.seq p.seq
    · rw [if_pos h, if_pos h]; rfl
    · rw [if_neg h, if_neg h]
theorem stay_at {ss : List Int} {l : List En} {i : Nat} {p y : En} (hi : 1 ≤ i) (hp : l[i - 1]? = some p) (hy : l[i]? = some y) : stay ss (l.take (i + 1)) = stay ss (l.take i) ++ if seenP ss y.seq p.seq then [y] else [] := by
  rw [take_succ_at hy]
  have hl := (List.getElem?_eq_some_iff.1 hy).1
  cases ht : l.take i with
  | nil =>
    have h1 : (l.take i).length = 0 := by rw [ht]; rfl
    rw [List.length_take] at h1
    omega
  | cons x t =>
    rw [List.cons_append]
    show x :: stayR ss x (t ++ [y]) = x :: stayR ss x t ++ _
    have hlen : (x :: t).length = i := by rw [← ht, List.length_take]; omega
    have e : lastE x t = p := lastE_at t x p (by
      have h2 : (x :: t)[i - 1]? = some p := by rw [← ht, List.getElem?_take, if_pos (by omega)]; exact hp
      rw [← h2]; congr 1; rw [← hlen]; simp)
    rw [stayR_snoc, e]; rfl
theorem stay_ne {ss : List Int} {l : List En} (h : l ≠ []) : stay ss l ≠ [] := by
  cases l with
  | nil => exact absurd rfl h
  | cons x l => simp [stay]
theorem stayR_len (ss : List Int) : ∀ (l : List En) (p : En), (stayR ss p l).length ≤ l.length
  | [], p => Nat.le_refl _
  | y :: l, p => by
    have ih := stayR_len ss l y
    unfold stayR
    split <;> simp <;> omega
theorem stay_len (ss : List Int) : ∀ (l : List En), (stay ss l).length ≤ l.length
  | [] => Nat.le_refl _
  | x :: l => by have := stayR_len ss l x; simp [stay]; omega
theorem trim_snoc {ss : List Int} {l : List En} {x : En} : trim ss true (l ++ [x]) = if gone ss x then trim ss true l else l ++ [x] := by
  unfold trim
  simp only [if_true, List.reverse_append, List.reverse_singleton, List.singleton_append, List.dropWhile_cons, decide_eq_true_eq]
  split <;> simp
theorem trim_len {ss : List Int} {last : Bool} {l : List En} : (trim ss last l).length ≤ l.length := by
  unfold trim
  split
  · rw [List.length_reverse]
    have := (List.dropWhile_sublist (l := l.reverse) fun x => decide (gone ss x)).length_le
    rw [List.length_reverse] at this; exact this
  · exact Nat.le_refl _
theorem stayR_sub (ss : List Int) : ∀ (l : List En) (p : En), (stayR ss p l).Sublist l
  | [], p => List.Sublist.slnil
  | y :: l, p => by
    have ih := stayR_sub ss l y
    unfold stayR
    split
    · exact ih.cons_cons y
    · exact ih.cons y
theorem stay_sub (ss : List Int) : ∀ (l : List En), (stay ss l).Sublist l
  | [] => List.Sublist.slnil
  | x :: l => (stayR_sub ss l x).cons_cons x
theorem trim_sub {ss : List Int} {last : Bool} {l : List En} : (trim ss last l).Sublist l := by
  unfold trim
  split
  · have := (List.dropWhile_sublist (l := l.reverse) fun x => decide (gone ss x)).reverse
    rwa [List.reverse_reverse] at this
  · exact List.Sublist.refl _
theorem kept_sub {ss : List Int} {last : Bool} {l : List En} : (kept ss last l).Sublist l := trim_sub.trans (stay_sub ss l)
theorem kept_len {ss : List Int} {last : Bool} {l : List En} : (kept ss last l).length ≤ l.length := Nat.le_trans trim_len (stay_len ss l)
theorem keepF_len {ss : List Int} {last : Bool} : ∀ (q : Nat) (l : List En), (keepF ss last q l).length ≤ l.length
  | 0, l => Nat.zero_le _
  | q + 1, [] => Nat.zero_le _
  | q + 1, x :: l => by
    have h1 := kept_len (ss := ss) (last := last) (l := (x :: l).take (grp (x :: l)))
    have h2 := keepF_len (ss := ss) (last := last) q ((x :: l).drop (grp (x :: l)))
    have h3 := grp_le (x :: l)
    rw [keepF, List.length_append]
    rw [List.length_take] at h1
    rw [List.length_drop] at h2
    omega
theorem keepP_len {ss : List Int} {last : Bool} {l : List En} : (keepP ss last l).length ≤ l.length := keepF_len _ _
/-- Entries that a call hands out, to be read. -/
def REv (xs : List En) (w0 : World) : List Value × World → Prop := fun r => ∃ B d w', r = ([.slice B xs.length d], w') ∧ Ev enEl w' B xs.length d xs ∧ Kp w0 w'
def REe (xs : List En) (e : Int) (w0 : World) : List Value × World → Prop := fun r => ∃ B d w', r = ([.slice B xs.length d, .int .i64 e], w') ∧ Ev enEl w' B xs.length d xs ∧ Kp w0 w'
section
variable {α : Type} {Q : α → Prop} {n base : Nat} {w w0 w' : World} {A B C D : Option Addr} {l c m d a1 a2 b1 b2 : Nat} {s k s' k' : Int} {x y : En} {xs ys : List En} {ss : List Int} {v : Value}
theorem Rt.cEv {x : Option (List Value × World)} (h : Rt x (REv xs w0)) {f : Option Addr → Nat → Nat → World → Option α} (hf : ∀ B d w1, Ev enEl w1 B xs.length d xs → Kp w0 w1 → Rt (f B xs.length d w1) Q) :
    Rt (Big.cl x fun vs w => Big.tC vs fun u cs => Big.tL u fun A l c => Big.tN cs (f A l c w)) Q := by
  obtain ⟨_, rfl, B, d, w1, rfl, o, k1⟩ := h
  exact hf B d w1 o k1
theorem Rt.cEe {x : Option (List Value × World)} {e : Int} (h : Rt x (REe xs e w0)) {f : Option Addr → Nat → Nat → Int → World → Option α} (hf : ∀ B d w1, Ev enEl w1 B xs.length d xs → Kp w0 w1 → Rt (f B xs.length d e w1) Q) :
    Rt (Big.cl x fun vs w => Big.tC vs fun u cs => Big.tL u fun A l c => Big.tC cs fun u' cs' => Big.tI .i64 u' fun i => Big.tN cs' (f A l c i w)) Q := by
  obtain ⟨_, rfl, B, d, w1, rfl, o, k1⟩ := h
  rw [cl_some, tC_mk, tL_mk, tC_mk, tI_mk, tN_mk]
  exact hf B d w1 o k1
theorem en_stb (hv : EnV w0 A l c s k B m d x) (hk : Kp w0 w) (ho : OwnE enEl 34 w base v ys) (hb : w0.heap.size ≤ base) : Stb (On v) (fun w => enEl.rd w [.slice A l c, .int .u64 s, .int .i64 k, .slice B m d] x) w :=
  fun w' hg => ⟨_, _, _, _, _, _, _, _, rfl, hv.kp (hk.tx hg fun k hk' => Nat.le_trans hb (ho.lt k hk').1)⟩
theorem en_stb2 (o1 : Own .u8 5 w a1 (.slice A l c) x.key) (o2 : Own .u8 5 w a2 (.slice B m d) x.val) (r1 : ∀ z ∈ x.key, (Lit.int .u8 z).wf = true) (r2 : ∀ z ∈ x.val, (Lit.int .u8 z).wf = true) (hs : s = x.seq) (hk : k = x.kind) (rs : (Lit.int .u64 x.seq).wf = true) (rk : (Lit.int .i64 x.kind).wf = true)
    (h : ∀ j, On v j → j < a1 ∧ j < a2) : Stb (On v) (fun w => enEl.rd w [.slice A l c, .int .u64 s, .int .i64 k, .slice B m d] x) w :=
  fun w' hg => ⟨_, _, _, _, _, _, _, _, rfl, (o1.gx hg fun j hj hv => by have := (o1.lt j hj).1; have := h j hv; omega).bv r1, hs, hk, rs, rk, (o2.gx hg fun j hj hv => by have := (o2.lt j hj).1; have := h j hv; omega).bv r2⟩
theorem kept_l0 {S : Nat → Prop} {wc : World} (hkc : Kp w wc) (hS : ∀ j, S j → w.heap.size ≤ j ∧ j < wc.heap.size) (hx : Ev enEl w A l c xs) (hs : Bv .u64 w B m d ss) (hl : l ≤ 2 ^ 35) (hm : m < 2 ^ 62) (hn : m < n) {last : Bool} : ∀ (q i j : Nat) (D : Option Addr) (c7 : Nat) (w' : World), i + q = l → q < j → 1 ≤ i → Kp wc w' →
    OwnX S enEl 34 w' wc.heap.size (.slice D (stay ss (xs.take i)).length c7) (stay ss (xs.take i)) →
    Rt (drop_kept.l0 n j A l c B m d last D (stay ss (xs.take i)).length c7 (i : Int) w') fun r => r.ex = .exit 0 ∧ ∃ D c7, r.vals = [.slice B m d, .bool last, .slice D (stay ss xs).length c7] ∧ Stb S (fun w => Ev enEl w D (stay ss xs).length c7 (stay ss xs)) r.w ∧ Kp wc r.w := by
  obtain ⟨t, z, hT⟩ := slE
  have hxl := hx.len
  intro q
  induction q with
  | zero =>
    intro i j D c7 w' hi hj hi1 hk ho
    obtain ⟨j, rfl⟩ : ∃ j', j = j' + 1 := ⟨j - 1, by omega⟩
    rw [List.take_of_length_le (by omega)] at ho ⊢
    rw [drop_kept.l0_succ]
    exact Rt.cDF (by omega) (Rt.some' ⟨rfl, D, c7, rfl, ho.stb fun k hk => (hS k hk).2, hk⟩)
  | succ q ih =>
    intro i j D c7 w' hi hj hi1 hk ho
    obtain ⟨j, rfl⟩ : ∃ j', j = j' + 1 := ⟨j - 1, by omega⟩
    rw [drop_kept.l0_succ]
    rw [i64_in ((i : Int) - 1) (by omega)]
    have hkd := (hkc.tr hk).dr
    refine Rt.cDT (by omega) (Rt.jb (Rt.ixN (hx.kp hkd).sl (by omega) (by omega) fun y a B1 b1 b2 s k C1 c1 c2 ey hv g0 g1 g2 g3 => ?_))
    (repeat (first | (with_reducible (first | refine Rt.fin ?_ | refine Rt.tL ?_ | refine Rt.tI ?_ | refine Rt.tB ?_ | refine Rt.tS ?_ | refine Rt.tP ?_ | refine Rt.tD ?_ | refine Rt.tM ?_ | refine Rt.tC ?_ | refine Rt.tN ?_ | refine Rt.tA ?_ | refine Rt.tG ?_ | refine Rt.tF ?_ | refine Rt.os ?_ | refine Rt.clS ?_ | refine Rt.jmN ?_ | refine Rt.jbN ?_ | refine Rt.jbE ?_)) | ((with_reducible (first | apply Rt.ld0 | apply Rt.ld1 | apply Rt.ld2 | apply Rt.ld3 | apply Rt.ld4 | apply Rt.ld5)); first | assumption | exact Lc.kp (by assumption) (by assumption)) | ((with_reducible apply Rt.ol); first | assumption | exact cell_kp (by assumption) (by assumption)) | ((with_reducible apply Rt.ckR); focus ((repeat (first | (with_reducible (first | refine Rt.fin ?_ | refine Rt.tL ?_ | refine Rt.tI ?_ | refine Rt.tB ?_ | refine Rt.tS ?_ | refine Rt.tP ?_ | refine Rt.tD ?_ | refine Rt.tM ?_ | refine Rt.tC ?_ | refine Rt.tN ?_ | refine Rt.tA ?_ | refine Rt.tG ?_ | refine Rt.tF ?_ | refine Rt.os ?_ | refine Rt.clS ?_ | refine Rt.jmN ?_ | refine Rt.jbN ?_ | refine Rt.jbE ?_)) | ((with_reducible (first | apply Rt.ld0 | apply Rt.ld1 | apply Rt.ld2 | apply Rt.ld3 | apply Rt.ld4 | apply Rt.ld5)); first | assumption | exact Lc.kp (by assumption) (by assumption)) | ((with_reducible apply Rt.ol); first | assumption | exact cell_kp (by assumption) (by assumption)))); exact Rt.some' rfl))))
    refine Rt.ixN (hx.kp hkd).sl (by omega) (by omega) fun x a' B1' b1' b2' s' k' C1' c1' c2' ex hv' g0' g1' g2' g3' => ?_
    (repeat (first | (with_reducible (first | refine Rt.fin ?_ | refine Rt.tL ?_ | refine Rt.tI ?_ | refine Rt.tB ?_ | refine Rt.tS ?_ | refine Rt.tP ?_ | refine Rt.tD ?_ | refine Rt.tM ?_ | refine Rt.tC ?_ | refine Rt.tN ?_ | refine Rt.tA ?_ | refine Rt.tG ?_ | refine Rt.tF ?_ | refine Rt.os ?_ | refine Rt.clS ?_ | refine Rt.jmN ?_ | refine Rt.jbN ?_ | refine Rt.jbE ?_)) | ((with_reducible (first | apply Rt.ld0 | apply Rt.ld1 | apply Rt.ld2 | apply Rt.ld3 | apply Rt.ld4 | apply Rt.ld5)); first | assumption | exact Lc.kp (by assumption) (by assumption)) | ((with_reducible apply Rt.ol); first | assumption | exact cell_kp (by assumption) (by assumption)) | ((with_reducible apply Rt.ckR); focus ((repeat (first | (with_reducible (first | refine Rt.fin ?_ | refine Rt.tL ?_ | refine Rt.tI ?_ | refine Rt.tB ?_ | refine Rt.tS ?_ | refine Rt.tP ?_ | refine Rt.tD ?_ | refine Rt.tM ?_ | refine Rt.tC ?_ | refine Rt.tN ?_ | refine Rt.tA ?_ | refine Rt.tG ?_ | refine Rt.tF ?_ | refine Rt.os ?_ | refine Rt.clS ?_ | refine Rt.jmN ?_ | refine Rt.jbN ?_ | refine Rt.jbE ?_)) | ((with_reducible (first | apply Rt.ld0 | apply Rt.ld1 | apply Rt.ld2 | apply Rt.ld3 | apply Rt.ld4 | apply Rt.ld5)); first | assumption | exact Lc.kp (by assumption) (by assumption)) | ((with_reducible apply Rt.ol); first | assumption | exact cell_kp (by assumption) (by assumption)))); exact Rt.some' rfl))))
    have ex : xs[i - 1]? = some x := by rw [← ex]; congr 1; omega
    have ey : xs[i]? = some y := by simpa using ey
    have est := stay_at (ss := ss) hi1 ex ey
    have hlen := stay_len ss (xs.take i)
    rw [List.length_take] at hlen
    refine Rt.cBo (seen_spec (hs.kp hkd) hm hn hv hv') fun b w1 hb k1 => ?_
    have ho1 := ho.kp ((Kp.rfl' w').dr.tr k1)
    have kc1 := hk.dr.tr k1
    have k1 := hkd.tr k1
    cases b with
    | false =>
      refine Rt.cF rfl (Rt.some' (.inl ⟨.inl rfl, ?_⟩))
      (repeat (first | (with_reducible (first | refine Rt.fin ?_ | refine Rt.tL ?_ | refine Rt.tI ?_ | refine Rt.tB ?_ | refine Rt.tS ?_ | refine Rt.tP ?_ | refine Rt.tD ?_ | refine Rt.tM ?_ | refine Rt.tC ?_ | refine Rt.tN ?_ | refine Rt.tA ?_ | refine Rt.tG ?_ | refine Rt.tF ?_ | refine Rt.os ?_ | refine Rt.clS ?_ | refine Rt.jmN ?_ | refine Rt.jbN ?_ | refine Rt.jbE ?_)) | ((with_reducible (first | apply Rt.ld0 | apply Rt.ld1 | apply Rt.ld2 | apply Rt.ld3 | apply Rt.ld4 | apply Rt.ld5)); first | assumption | exact Lc.kp (by assumption) (by assumption)) | ((with_reducible apply Rt.ol); first | assumption | exact cell_kp (by assumption) (by assumption)) | ((with_reducible apply Rt.ckR); focus ((repeat (first | (with_reducible (first | refine Rt.fin ?_ | refine Rt.tL ?_ | refine Rt.tI ?_ | refine Rt.tB ?_ | refine Rt.tS ?_ | refine Rt.tP ?_ | refine Rt.tD ?_ | refine Rt.tM ?_ | refine Rt.tC ?_ | refine Rt.tN ?_ | refine Rt.tA ?_ | refine Rt.tG ?_ | refine Rt.tF ?_ | refine Rt.os ?_ | refine Rt.clS ?_ | refine Rt.jmN ?_ | refine Rt.jbN ?_ | refine Rt.jbE ?_)) | ((with_reducible (first | apply Rt.ld0 | apply Rt.ld1 | apply Rt.ld2 | apply Rt.ld3 | apply Rt.ld4 | apply Rt.ld5)); first | assumption | exact Lc.kp (by assumption) (by assumption)) | ((with_reducible apply Rt.ol); first | assumption | exact cell_kp (by assumption) (by assumption)))); exact Rt.some' rfl))))
      rw [i64_in _ (by omega), show ((i : Int) + 1) = ((i + 1 : Nat) : Int) by omega]
      have hnp : ¬ seenP ss y.seq x.seq := fun h => by simpa using hb.2 h
      rw [if_neg hnp, List.append_nil] at est
      rw [← est]
      exact ih (i + 1) j D c7 w1 (by omega) (by omega) (by omega) kc1 (by rw [est]; exact ho1)
    | true =>
      rw [if_pos (hb.1 rfl)] at est
      refine Rt.cT rfl (Rt.ixNk hx.sl k1 (by omega) (by omega) fun y' a' B1' b1' b2' s' k' C1' c1' c2' ey' hv' g0' g1' g2' g3' => ?_)
      have ey' : xs[i]? = some y' := by simpa using ey'
      rw [ey] at ey'
      injection ey' with ey'
      subst ey'
      (repeat (first | (with_reducible (first | refine Rt.fin ?_ | refine Rt.tL ?_ | refine Rt.tI ?_ | refine Rt.tB ?_ | refine Rt.tS ?_ | refine Rt.tP ?_ | refine Rt.tD ?_ | refine Rt.tM ?_ | refine Rt.tC ?_ | refine Rt.tN ?_ | refine Rt.tA ?_ | refine Rt.tG ?_ | refine Rt.tF ?_ | refine Rt.os ?_ | refine Rt.clS ?_ | refine Rt.jmN ?_ | refine Rt.jbN ?_ | refine Rt.jbE ?_)) | ((with_reducible (first | apply Rt.ld0 | apply Rt.ld1 | apply Rt.ld2 | apply Rt.ld3 | apply Rt.ld4 | apply Rt.ld5)); first | assumption | exact Lc.kp (by assumption) (by assumption)) | ((with_reducible apply Rt.ol); first | assumption | exact cell_kp (by assumption) (by assumption)) | ((with_reducible apply Rt.ckR); focus ((repeat (first | (with_reducible (first | refine Rt.fin ?_ | refine Rt.tL ?_ | refine Rt.tI ?_ | refine Rt.tB ?_ | refine Rt.tS ?_ | refine Rt.tP ?_ | refine Rt.tD ?_ | refine Rt.tM ?_ | refine Rt.tC ?_ | refine Rt.tN ?_ | refine Rt.tA ?_ | refine Rt.tG ?_ | refine Rt.tF ?_ | refine Rt.os ?_ | refine Rt.clS ?_ | refine Rt.jmN ?_ | refine Rt.jbN ?_ | refine Rt.jbE ?_)) | ((with_reducible (first | apply Rt.ld0 | apply Rt.ld1 | apply Rt.ld2 | apply Rt.ld3 | apply Rt.ld4 | apply Rt.ld5)); first | assumption | exact Lc.kp (by assumption) (by assumption)) | ((with_reducible apply Rt.ol); first | assumption | exact cell_kp (by assumption) (by assumption)))); exact Rt.some' rfl))))
      refine Rt.app1X rfl hT ho1 rfl (fun w2 hg => ⟨_, _, _, _, _, _, _, _, rfl, hv'.kp (k1.tx hg fun j hj => hj.elim (fun h => (hS j h).1) fun h => Nat.le_trans hkc.size (ho1.lt j h).1)⟩) (by omega) kc1.size fun A7 c8 w2 o2 g2 s2 => ?_
      (repeat (first | (with_reducible (first | refine Rt.fin ?_ | refine Rt.tL ?_ | refine Rt.tI ?_ | refine Rt.tB ?_ | refine Rt.tS ?_ | refine Rt.tP ?_ | refine Rt.tD ?_ | refine Rt.tM ?_ | refine Rt.tC ?_ | refine Rt.tN ?_ | refine Rt.tA ?_ | refine Rt.tG ?_ | refine Rt.tF ?_ | refine Rt.os ?_ | refine Rt.clS ?_ | refine Rt.jmN ?_ | refine Rt.jbN ?_ | refine Rt.jbE ?_)) | ((with_reducible (first | apply Rt.ld0 | apply Rt.ld1 | apply Rt.ld2 | apply Rt.ld3 | apply Rt.ld4 | apply Rt.ld5)); first | assumption | exact Lc.kp (by assumption) (by assumption)) | ((with_reducible apply Rt.ol); first | assumption | exact cell_kp (by assumption) (by assumption)) | ((with_reducible apply Rt.ckR); focus ((repeat (first | (with_reducible (first | refine Rt.fin ?_ | refine Rt.tL ?_ | refine Rt.tI ?_ | refine Rt.tB ?_ | refine Rt.tS ?_ | refine Rt.tP ?_ | refine Rt.tD ?_ | refine Rt.tM ?_ | refine Rt.tC ?_ | refine Rt.tN ?_ | refine Rt.tA ?_ | refine Rt.tG ?_ | refine Rt.tF ?_ | refine Rt.os ?_ | refine Rt.clS ?_ | refine Rt.jmN ?_ | refine Rt.jbN ?_ | refine Rt.jbE ?_)) | ((with_reducible (first | apply Rt.ld0 | apply Rt.ld1 | apply Rt.ld2 | apply Rt.ld3 | apply Rt.ld4 | apply Rt.ld5)); first | assumption | exact Lc.kp (by assumption) (by assumption)) | ((with_reducible apply Rt.ol); first | assumption | exact cell_kp (by assumption) (by assumption)))); exact Rt.some' rfl))))
      refine Rt.some' (.inl ⟨.inl rfl, ?_⟩)
      (repeat (first | (with_reducible (first | refine Rt.fin ?_ | refine Rt.tL ?_ | refine Rt.tI ?_ | refine Rt.tB ?_ | refine Rt.tS ?_ | refine Rt.tP ?_ | refine Rt.tD ?_ | refine Rt.tM ?_ | refine Rt.tC ?_ | refine Rt.tN ?_ | refine Rt.tA ?_ | refine Rt.tG ?_ | refine Rt.tF ?_ | refine Rt.os ?_ | refine Rt.clS ?_ | refine Rt.jmN ?_ | refine Rt.jbN ?_ | refine Rt.jbE ?_)) | ((with_reducible (first | apply Rt.ld0 | apply Rt.ld1 | apply Rt.ld2 | apply Rt.ld3 | apply Rt.ld4 | apply Rt.ld5)); first | assumption | exact Lc.kp (by assumption) (by assumption)) | ((with_reducible apply Rt.ol); first | assumption | exact cell_kp (by assumption) (by assumption)) | ((with_reducible apply Rt.ckR); focus ((repeat (first | (with_reducible (first | refine Rt.fin ?_ | refine Rt.tL ?_ | refine Rt.tI ?_ | refine Rt.tB ?_ | refine Rt.tS ?_ | refine Rt.tP ?_ | refine Rt.tD ?_ | refine Rt.tM ?_ | refine Rt.tC ?_ | refine Rt.tN ?_ | refine Rt.tA ?_ | refine Rt.tG ?_ | refine Rt.tF ?_ | refine Rt.os ?_ | refine Rt.clS ?_ | refine Rt.jmN ?_ | refine Rt.jbN ?_ | refine Rt.jbE ?_)) | ((with_reducible (first | apply Rt.ld0 | apply Rt.ld1 | apply Rt.ld2 | apply Rt.ld3 | apply Rt.ld4 | apply Rt.ld5)); first | assumption | exact Lc.kp (by assumption) (by assumption)) | ((with_reducible apply Rt.ol); first | assumption | exact cell_kp (by assumption) (by assumption)))); exact Rt.some' rfl))))
      rw [i64_in _ (by omega), show ((i : Int) + 1) = ((i + 1 : Nat) : Int) by omega]
      rw [show (stay ss (xs.take i)).length + 1 = (stay ss (xs.take (i + 1))).length by rw [est, List.length_append]; rfl] at o2 ⊢
      refine ih (i + 1) j A7 c8 w2 (by omega) (by omega) (by omega) (kc1.tx g2 fun j hj => (ho1.lt j hj).1) ?_
      rw [← est] at o2
      exact o2
theorem kept_l1 {S : Nat → Prop} (hs : Bv .u64 w B m d ss) (hm : m < 2 ^ 62) (hn : m < n) {last : Bool} : ∀ (q j : Nat) (xs : List En) (A : Option Addr) (c : Nat) (w' : World), xs.length = q → q ≤ 2 ^ 40 → q < j → Kp w w' → Stb S (fun w => Ev enEl w A q c xs) w' →
    Rt (drop_kept.l1 n j B m d last A q c ((q : Int) - 1) w') fun r => r.ex = .exit 2 ∧ ∃ A c, r.vals = [.slice A (trim ss last xs).length c] ∧ Stb S (fun w => Ev enEl w A (trim ss last xs).length c (trim ss last xs)) r.w ∧ Kp w r.w := by
  intro q
  induction q with
  | zero =>
    intro j xs A c w' hq h40 hj hk hx
    obtain ⟨j, rfl⟩ : ∃ j', j = j' + 1 := ⟨j - 1, by omega⟩
    obtain rfl : xs = [] := List.length_eq_zero_iff.1 hq
    rw [drop_kept.l1_succ]
    have e : trim ss last [] = [] := by unfold trim; split <;> rfl
    cases last with
    | false => exact Rt.cF rfl (Rt.some' ⟨rfl, A, c, by rw [e]; rfl, by rw [e]; exact hx, hk⟩)
    | true => exact Rt.cT rfl (Rt.cDF (by omega) (Rt.some' ⟨rfl, A, c, by rw [e]; rfl, by rw [e]; exact hx, hk⟩))
  | succ q ih =>
    intro j xs A c w' hq h40 hj hk hx
    obtain ⟨j, rfl⟩ : ∃ j', j = j' + 1 := ⟨j - 1, by omega⟩
    obtain ⟨ys, y, rfl⟩ : ∃ ys y, xs = ys ++ [y] := ⟨xs.dropLast, xs.getLast (by intro h; rw [h] at hq; simp at hq), (List.dropLast_concat_getLast _).symm⟩
    have hq' : ys.length = q := by simpa using hq
    rw [drop_kept.l1_succ]
    cases last with
    | false => exact Rt.cF rfl (Rt.some' ⟨rfl, A, c, by simp [trim, hq'], by simp [trim, hq']; exact hx, hk⟩)
    | true =>
      rw [trim_snoc]
      have stop : ¬ gone ss y → Rt (some (⟨.exit 2, [.slice A (q + 1) c], w'⟩ : Res)) fun r => r.ex = .exit 2 ∧ ∃ A c, r.vals = [.slice A (if gone ss y then trim ss true ys else ys ++ [y]).length c] ∧ Stb S (fun w => Ev enEl w A (if gone ss y then trim ss true ys else ys ++ [y]).length c (if gone ss y then trim ss true ys else ys ++ [y])) r.w ∧ Kp w r.w := by
        intro hg
        rw [if_neg hg, hq]
        exact Rt.some' ⟨rfl, A, c, rfl, hx, hk⟩
      refine Rt.cT rfl (Rt.cDT (by omega) (Rt.ixN hx.out.sl (by omega) (by omega) fun z a B1 b1 b2 s k C1 c1 c2 ez hv g0 g1 g2 g3 => ?_))
      have ei : (((q + 1 : Nat) : Int) - 1).toNat = q := by omega
      rw [ei] at ez
      have ez : y = z := by simpa [← hq'] using ez
      subst ez
      have hkd := hv.kind
      (repeat (first | (with_reducible (first | refine Rt.fin ?_ | refine Rt.tL ?_ | refine Rt.tI ?_ | refine Rt.tB ?_ | refine Rt.tS ?_ | refine Rt.tP ?_ | refine Rt.tD ?_ | refine Rt.tM ?_ | refine Rt.tC ?_ | refine Rt.tN ?_ | refine Rt.tA ?_ | refine Rt.tG ?_ | refine Rt.tF ?_ | refine Rt.os ?_ | refine Rt.clS ?_ | refine Rt.jmN ?_ | refine Rt.jbN ?_ | refine Rt.jbE ?_)) | ((with_reducible (first | apply Rt.ld0 | apply Rt.ld1 | apply Rt.ld2 | apply Rt.ld3 | apply Rt.ld4 | apply Rt.ld5)); first | assumption | exact Lc.kp (by assumption) (by assumption)) | ((with_reducible apply Rt.ol); first | assumption | exact cell_kp (by assumption) (by assumption)) | ((with_reducible apply Rt.ckR); focus ((repeat (first | (with_reducible (first | refine Rt.fin ?_ | refine Rt.tL ?_ | refine Rt.tI ?_ | refine Rt.tB ?_ | refine Rt.tS ?_ | refine Rt.tP ?_ | refine Rt.tD ?_ | refine Rt.tM ?_ | refine Rt.tC ?_ | refine Rt.tN ?_ | refine Rt.tA ?_ | refine Rt.tG ?_ | refine Rt.tF ?_ | refine Rt.os ?_ | refine Rt.clS ?_ | refine Rt.jmN ?_ | refine Rt.jbN ?_ | refine Rt.jbE ?_)) | ((with_reducible (first | apply Rt.ld0 | apply Rt.ld1 | apply Rt.ld2 | apply Rt.ld3 | apply Rt.ld4 | apply Rt.ld5)); first | assumption | exact Lc.kp (by assumption) (by assumption)) | ((with_reducible apply Rt.ol); first | assumption | exact cell_kp (by assumption) (by assumption)))); exact Rt.some' rfl))))
      refine Rt.cQ (fun h => ?_) fun h => stop fun hg => h (by rw [hkd]; exact hg.1)
      refine Rt.ixN hx.out.sl (by omega) (by omega) fun z a B1 b1 b2 s k C1 c1 c2 ez hv g0 g1 g2 g3 => ?_
      rw [ei] at ez
      have ez : y = z := by simpa [← hq'] using ez
      subst ez
      (repeat (first | (with_reducible (first | refine Rt.fin ?_ | refine Rt.tL ?_ | refine Rt.tI ?_ | refine Rt.tB ?_ | refine Rt.tS ?_ | refine Rt.tP ?_ | refine Rt.tD ?_ | refine Rt.tM ?_ | refine Rt.tC ?_ | refine Rt.tN ?_ | refine Rt.tA ?_ | refine Rt.tG ?_ | refine Rt.tF ?_ | refine Rt.os ?_ | refine Rt.clS ?_ | refine Rt.jmN ?_ | refine Rt.jbN ?_ | refine Rt.jbE ?_)) | ((with_reducible (first | apply Rt.ld0 | apply Rt.ld1 | apply Rt.ld2 | apply Rt.ld3 | apply Rt.ld4 | apply Rt.ld5)); first | assumption | exact Lc.kp (by assumption) (by assumption)) | ((with_reducible apply Rt.ol); first | assumption | exact cell_kp (by assumption) (by assumption)) | ((with_reducible apply Rt.ckR); focus ((repeat (first | (with_reducible (first | refine Rt.fin ?_ | refine Rt.tL ?_ | refine Rt.tI ?_ | refine Rt.tB ?_ | refine Rt.tS ?_ | refine Rt.tP ?_ | refine Rt.tD ?_ | refine Rt.tM ?_ | refine Rt.tC ?_ | refine Rt.tN ?_ | refine Rt.tA ?_ | refine Rt.tG ?_ | refine Rt.tF ?_ | refine Rt.os ?_ | refine Rt.clS ?_ | refine Rt.jmN ?_ | refine Rt.jbN ?_ | refine Rt.jbE ?_)) | ((with_reducible (first | apply Rt.ld0 | apply Rt.ld1 | apply Rt.ld2 | apply Rt.ld3 | apply Rt.ld4 | apply Rt.ld5)); first | assumption | exact Lc.kp (by assumption) (by assumption)) | ((with_reducible apply Rt.ol); first | assumption | exact cell_kp (by assumption) (by assumption)))); exact Rt.some' rfl))))
      refine Rt.cBo (below_spec (hs.kp hk) hm hn hv) fun b w1 hb k1 => ?_
      cases b with
      | true =>
        refine Rt.cF rfl ?_
        have hg : ¬ gone ss y := fun hg => hg.2 (hb.1 rfl)
        rw [if_neg hg, hq]
        exact Rt.some' ⟨rfl, A, c, rfl, hx.kp k1, hk.tr k1⟩
      | false =>
        have hg : gone ss y := ⟨by rw [← hkd]; exact h, fun hb' => by simpa using hb.2 hb'⟩
        rw [if_pos hg]
        refine Rt.cT rfl (Rt.cutES (hx.kp k1) rfl (by omega) (by omega) (by omega) fun A' hx' => ?_)
        rw [ei] at hx' ⊢
        rw [i64_in _ (by omega), show ((q + 1 : Nat) : Int) - 1 - 1 = (q : Int) - 1 by omega]
        have e1 : List.drop (Int.toNat 0) (List.take q (ys ++ [y])) = ys := by rw [← hq']; simp
        rw [e1] at hx'
        exact ih j ys A' _ w1 hq' (by omega) (by omega) (hk.tr k1) hx'
theorem kept_spec {S : Nat → Prop} {wc : World} (hkc : Kp w wc) (hS : ∀ j, S j → w.heap.size ≤ j ∧ j < wc.heap.size) (hx : Ev enEl w A l c xs) (hne : xs ≠ []) (hs : Bv .u64 w B m d ss) (hl : l ≤ 2 ^ 35) (hm : m < 2 ^ 62) (hn : m < n) (hn2 : 2 ^ 50 < n) {last : Bool} :
    Rt (drop_kept n [.slice A l c, .slice B m d, .bool last] wc) fun r => ∃ B d w', r = ([.slice B (kept ss last xs).length d], w') ∧ Stb S (fun w => Ev enEl w B (kept ss last xs).length d (kept ss last xs)) w' ∧ Kp wc w' := by
  have hxl := hx.len
  have hpos : 0 < xs.length := List.length_pos_iff.2 hne
  rw [drop_kept_eq]
  refine Rt.fin (Rt.ixNk hx.sl hkc (by omega) (by omega) fun x a B1 b1 b2 s k C1 c1 c2 ex hv g0 g1 g2 g3 => ?_)
  (repeat (first | (with_reducible (first | refine Rt.fin ?_ | refine Rt.tL ?_ | refine Rt.tI ?_ | refine Rt.tB ?_ | refine Rt.tS ?_ | refine Rt.tP ?_ | refine Rt.tD ?_ | refine Rt.tM ?_ | refine Rt.tC ?_ | refine Rt.tN ?_ | refine Rt.tA ?_ | refine Rt.tG ?_ | refine Rt.tF ?_ | refine Rt.os ?_ | refine Rt.clS ?_ | refine Rt.jmN ?_ | refine Rt.jbN ?_ | refine Rt.jbE ?_)) | ((with_reducible (first | apply Rt.ld0 | apply Rt.ld1 | apply Rt.ld2 | apply Rt.ld3 | apply Rt.ld4 | apply Rt.ld5)); first | assumption | exact Lc.kp (by assumption) (by assumption)) | ((with_reducible apply Rt.ol); first | assumption | exact cell_kp (by assumption) (by assumption)) | ((with_reducible apply Rt.ckR); focus ((repeat (first | (with_reducible (first | refine Rt.fin ?_ | refine Rt.tL ?_ | refine Rt.tI ?_ | refine Rt.tB ?_ | refine Rt.tS ?_ | refine Rt.tP ?_ | refine Rt.tD ?_ | refine Rt.tM ?_ | refine Rt.tC ?_ | refine Rt.tN ?_ | refine Rt.tA ?_ | refine Rt.tG ?_ | refine Rt.tF ?_ | refine Rt.os ?_ | refine Rt.clS ?_ | refine Rt.jmN ?_ | refine Rt.jbN ?_ | refine Rt.jbE ?_)) | ((with_reducible (first | apply Rt.ld0 | apply Rt.ld1 | apply Rt.ld2 | apply Rt.ld3 | apply Rt.ld4 | apply Rt.ld5)); first | assumption | exact Lc.kp (by assumption) (by assumption)) | ((with_reducible apply Rt.ol); first | assumption | exact cell_kp (by assumption) (by assumption)))); exact Rt.some' rfl))))
  obtain ⟨x', xs, rfl⟩ : ∃ x xs', xs = x :: xs' := by cases xs with
    | nil => exact absurd rfl hne
    | cons x xs => exact ⟨x, xs, rfl⟩
  have ex : x' = x := by simpa using ex
  subst ex
  refine Rt.ale1 (E := enEl) (S := S) (x := x') rfl (fun w2 hg => ⟨_, _, _, _, _, _, _, _, rfl, hv.kp (hkc.tx hg fun j hj => (hS j hj).1)⟩) (fun j hj => (hS j hj).2) (by decide) fun w1 o1 k1 _ => ?_
  refine Rt.jb (Rt.mono (kept_l0 (n := n) (last := last) hkc hS hx hs hl hm hn (l - 1) 1 n _ _ w1 (by omega) (by omega) (by omega) k1 (by simpa [stay, stayR] using o1)) ?_)
  rintro ⟨ex, vs, w2⟩ ⟨h1, D, c7, h2, h3, k2⟩
  dsimp only at h1 h2 h3 k2
  subst h1 h2
  refine .inl ⟨.inr rfl, ?_⟩
  (repeat (first | (with_reducible (first | refine Rt.fin ?_ | refine Rt.tL ?_ | refine Rt.tI ?_ | refine Rt.tB ?_ | refine Rt.tS ?_ | refine Rt.tP ?_ | refine Rt.tD ?_ | refine Rt.tM ?_ | refine Rt.tC ?_ | refine Rt.tN ?_ | refine Rt.tA ?_ | refine Rt.tG ?_ | refine Rt.tF ?_ | refine Rt.os ?_ | refine Rt.clS ?_ | refine Rt.jmN ?_ | refine Rt.jbN ?_ | refine Rt.jbE ?_)) | ((with_reducible (first | apply Rt.ld0 | apply Rt.ld1 | apply Rt.ld2 | apply Rt.ld3 | apply Rt.ld4 | apply Rt.ld5)); first | assumption | exact Lc.kp (by assumption) (by assumption)) | ((with_reducible apply Rt.ol); first | assumption | exact cell_kp (by assumption) (by assumption)) | ((with_reducible apply Rt.ckR); focus ((repeat (first | (with_reducible (first | refine Rt.fin ?_ | refine Rt.tL ?_ | refine Rt.tI ?_ | refine Rt.tB ?_ | refine Rt.tS ?_ | refine Rt.tP ?_ | refine Rt.tD ?_ | refine Rt.tM ?_ | refine Rt.tC ?_ | refine Rt.tN ?_ | refine Rt.tA ?_ | refine Rt.tG ?_ | refine Rt.tF ?_ | refine Rt.os ?_ | refine Rt.clS ?_ | refine Rt.jmN ?_ | refine Rt.jbN ?_ | refine Rt.jbE ?_)) | ((with_reducible (first | apply Rt.ld0 | apply Rt.ld1 | apply Rt.ld2 | apply Rt.ld3 | apply Rt.ld4 | apply Rt.ld5)); first | assumption | exact Lc.kp (by assumption) (by assumption)) | ((with_reducible apply Rt.ol); first | assumption | exact cell_kp (by assumption) (by assumption)))); exact Rt.some' rfl))))
  have hsl := stay_len ss (x' :: xs)
  rw [i64_in _ (by omega)]
  refine Rt.jb (Rt.mono (kept_l1 (n := n) (last := last) (hs.kp (hkc.tr k2)) hm hn _ n _ D c7 w2 rfl (by omega) (by omega) (Kp.rfl' _) h3) ?_)
  rintro ⟨ex, vs, w3⟩ ⟨h1, D', c8, h2, h4, k3⟩
  dsimp only at h1 h2 h4 k3
  subst h1 h2
  refine .inl ⟨.inr rfl, ?_⟩
  (repeat (first | (with_reducible (first | refine Rt.fin ?_ | refine Rt.tL ?_ | refine Rt.tI ?_ | refine Rt.tB ?_ | refine Rt.tS ?_ | refine Rt.tP ?_ | refine Rt.tD ?_ | refine Rt.tM ?_ | refine Rt.tC ?_ | refine Rt.tN ?_ | refine Rt.tA ?_ | refine Rt.tG ?_ | refine Rt.tF ?_ | refine Rt.os ?_ | refine Rt.clS ?_ | refine Rt.jmN ?_ | refine Rt.jbN ?_ | refine Rt.jbE ?_)) | ((with_reducible (first | apply Rt.ld0 | apply Rt.ld1 | apply Rt.ld2 | apply Rt.ld3 | apply Rt.ld4 | apply Rt.ld5)); first | assumption | exact Lc.kp (by assumption) (by assumption)) | ((with_reducible apply Rt.ol); first | assumption | exact cell_kp (by assumption) (by assumption)) | ((with_reducible apply Rt.ckR); focus ((repeat (first | (with_reducible (first | refine Rt.fin ?_ | refine Rt.tL ?_ | refine Rt.tI ?_ | refine Rt.tB ?_ | refine Rt.tS ?_ | refine Rt.tP ?_ | refine Rt.tD ?_ | refine Rt.tM ?_ | refine Rt.tC ?_ | refine Rt.tN ?_ | refine Rt.tA ?_ | refine Rt.tG ?_ | refine Rt.tF ?_ | refine Rt.os ?_ | refine Rt.clS ?_ | refine Rt.jmN ?_ | refine Rt.jbN ?_ | refine Rt.jbE ?_)) | ((with_reducible (first | apply Rt.ld0 | apply Rt.ld1 | apply Rt.ld2 | apply Rt.ld3 | apply Rt.ld4 | apply Rt.ld5)); first | assumption | exact Lc.kp (by assumption) (by assumption)) | ((with_reducible apply Rt.ol); first | assumption | exact cell_kp (by assumption) (by assumption)))); exact Rt.some' rfl))))
  exact Rt.some' ⟨rfl, D', c8, w3, rfl, h4, k2.tr k3⟩
end
end Go.Proofs.Ytoilmnplocfipaa.Dr
