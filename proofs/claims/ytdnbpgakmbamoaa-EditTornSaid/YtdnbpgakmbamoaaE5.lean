/- Edits: the law of limits. -/
import Derived.Test.YtdnbpgakmbamoaaE4
namespace Go.Proofs.Ytdnbpgakmbamoaa.Ed
open Go Big Go.RowKit Go.IntWalk Cm Var Low
set_option linter.unusedVariables false
set_option linter.unusedSimpArgs false
theorem conv : ConvB Try.prog 30 := fun a l c w => by kernel_rfl
theorem nilB {k : IntKind} (w : World) : Bv k w none 0 0 [] := ⟨Sl.nil .., fun _ => ⟨rfl, rfl⟩, Nat.le_refl _, Nat.zero_le _, by simp⟩
theorem nilE {γ : Type} {E : El γ} (w : World) : Ev E w none 0 0 [] := ⟨SlE.nil .., fun _ => ⟨rfl, rfl⟩, Nat.le_refl _, Nat.zero_le _⟩
theorem i64wf {x : Int} (h : -2 ^ 63 ≤ x ∧ x < 2 ^ 63) : (Lit.int .i64 x).wf = true := by
  have h0 : IntKind.i64.min = -9223372036854775808 := rfl
  have h1 : IntKind.i64.max = 9223372036854775807 := rfl
  simp only [Lit.wf, h0, h1, Bool.and_eq_true, decide_eq_true_eq]; omega
theorem u64wf {x : Int} (h : 0 ≤ x ∧ x < 2 ^ 64) : (Lit.int .u64 x).wf = true := by
  have h0 : IntKind.u64.min = 0 := rfl
  have h1 : IntKind.u64.max = 18446744073709551615 := rfl
  simp only [Lit.wf, h0, h1, Bool.and_eq_true, decide_eq_true_eq]; omega
theorem zeroV (w : World) {x : Int} (h : -2 ^ 63 ≤ x ∧ x < 2 ^ 63) : EditV w none 0 0 none 0 0 x 0 0 ⟨[], [], x, 0, 0⟩ :=
  ⟨nilE w, nilB w, rfl, rfl, rfl, i64wf h, (show (Lit.int .i64 0).wf = true by decide), (show (Lit.int .u64 0).wf = true by decide)⟩
theorem enc_pos1 (x : Nat) : 0 < (enc x).length := enc_pos x
theorem bytesE_pos {e : EditD} : 0 < (bytesE e).length ↔ rightE e := by
  unfold bytesE
  by_cases h : rightE e
  · rw [if_pos h]
    have := enc_pos e.add.length
    simp only [encE, List.length_append]
    exact ⟨fun _ => h, fun _ => by omega⟩
  · rw [if_neg h]; simp [h]
theorem zero_right : rightE ⟨[], [], 0, 0, 0⟩ := ⟨by decide, by decide, by decide, by decide, by decide, ⟨by simp, by simp⟩, by simp, by simp⟩
theorem zero_bytes : (bytesE ⟨[], [], 0, 0, 0⟩).length = 5 := by
  unfold bytesE
  rw [if_pos zero_right]
  have h0 : enc 0 = [0] := enc_small (by decide)
  simp [encE, encA, encN, h0]
section
variable {α : Type} {Q : α → Prop} {n : Nat} {w w0 : World} {A B C : Option Addr} {l c m d base : Nat} {f b k s : Int} {p q : Nat} {x : RunD} {xs ys : List RunD} {fs bs : List Int} {e : EditD} {en el es : Int}
theorem Bv.blk {k : IntKind} {zs : List Int} (h : Bv k w A l c zs) (hl : 0 < l) : ∃ a, A = some a ∧ a.block < w.heap.size := by
  have := h.sl.1
  rcases h.sl.2 with h1 | ⟨a, h1, h2⟩
  · rw [h1] at this; simp at this; omega
  · exact ⟨a, h1, World.block_lt_of_cell? w _ (by have := h2 0 hl; rw [Addr.add_zero'] at this; exact this)⟩
theorem Bv.gx {k : IntKind} {zs : List Int} {S : Nat → Prop} {w' : World} (h : Bv k w A l c zs) (hg : Gx S w w') (hn : ∀ a, A = some a → ¬ S a.block) : Bv k w' A l c zs :=
  ⟨h.sl.gx hg hn, h.nil, h.cap, h.max, h.rng⟩
theorem alive_spec (hn : 400 < n) : Rt (butterylaw16_alive n [] w) (RB True w) := by
  rw [butterylaw16_alive_eq]
  refine Rt.fin (Rt.cO (Bytes_spec (zeroV w (x := 0) (by decide)) hn) fun D d w1 o1 k1 => ?_)
  rw [zero_bytes]
  refine Rt.cT rfl (Rt.cBt (Right_spec (zeroV w1 (x := 0) (by decide)) (by omega)) zero_right fun w2 k2 => Rt.cT rfl ?_)
  refine Rt.cBo (Right_spec (zeroV w2 (x := -1) (by decide)) (by omega)) fun b w3 hb k3 => ?_
  have : b = false := by
    cases b with
    | false => rfl
    | true => exact absurd (hb.1 rfl).2.2.1.1 (by decide)
  subst this
  exact Rt.endB (by simp) ((k1.tr k2).tr k3)
/-- The whole end of the law. -/
theorem limits_end {eb : Nat} {mo : Int} (hk : Kp w0 w) (hl : Lc w eb [.slice A l c, .slice B m d, .int .i64 en, .int .i64 el, .int .u64 es]) (hx : EditV w A l c B m d en el es e) (hr : rightE e ↔ mo ≤ 0) (hn : 400 < n) {y : Option Res}
    (hy : y = (tC [.int .i64 mo, .pointer (some ⟨eb, 0, none⟩)] fun v198 cs199 => tI .i64 v198 fun n200 => tC cs199 fun v201 cs202 => tD v201 fun ad203 => tN cs202 (opt (w.cell? ad203) fun v204 => tL v204 fun A205 l206 c207 => opt (w.cell? (Addr.add ad203 1)) fun v208 => tL v208 fun A209 l210 c211 => opt (w.cell? (Addr.add ad203 2)) fun v212 => tI .i64 v212 fun n213 => opt (w.cell? (Addr.add ad203 3)) fun v214 => tI .i64 v214 fun n215 => opt (w.cell? (Addr.add ad203 4)) fun v216 => tI .u64 v216 fun n217 => cl (edit_Right n [(.agg #[(.slice A205 l206 c207), (.slice A209 l210 c211), .int .i64 n213, .int .i64 n215, .int .u64 n217])] w) fun vs218 w219 => tC vs218 fun v220 cs221 => tB v220 fun b222 => tN cs221 (cond (b222 == (decide (n200 ≤ 0))) (opt (w219.cell? ad203) fun v223 => tL v223 fun A224 l225 c226 => opt (w219.cell? (Addr.add ad203 1)) fun v227 => tL v227 fun A228 l229 c230 => opt (w219.cell? (Addr.add ad203 2)) fun v231 => tI .i64 v231 fun n232 => opt (w219.cell? (Addr.add ad203 3)) fun v233 => tI .i64 v233 fun n234 => opt (w219.cell? (Addr.add ad203 4)) fun v235 => tI .u64 v235 fun n236 => cl (edit_Bytes n [(.agg #[(.slice A224 l225 c226), (.slice A228 l229 c230), .int .i64 n232, .int .i64 n234, .int .u64 n236])] w219) fun vs237 w238 => tC vs237 fun v239 cs240 => tL v239 fun A241 l242 c243 => tN cs240 (some ⟨.ret, [(.bool ((decide ((l242 : Int) > 0)) == (decide (n200 ≤ 0))))], w238⟩)) (some ⟨.ret, [(.bool false)], w219⟩))))) :
    Rt y (fun r => r.ex = .ret ∧ RB True w0 (r.vals, r.w)) := by
  subst hy
  (repeat (first | (with_reducible (first | refine Rt.fin ?_ | refine Rt.tL ?_ | refine Rt.tI ?_ | refine Rt.tB ?_ | refine Rt.tS ?_ | refine Rt.tP ?_ | refine Rt.tD ?_ | refine Rt.tM ?_ | refine Rt.tC ?_ | refine Rt.tN ?_ | refine Rt.tA ?_ | refine Rt.tG ?_ | refine Rt.tF ?_ | refine Rt.os ?_ | refine Rt.clS ?_ | refine Rt.jmN ?_ | refine Rt.jbN ?_ | refine Rt.jbE ?_)) | ((with_reducible (first | apply Rt.ld0 | apply Rt.ld1 | apply Rt.ld2 | apply Rt.ld3 | apply Rt.ld4 | apply Rt.ld5)); first | assumption | exact Lc.kp (by assumption) (by assumption)) | ((with_reducible apply Rt.ol); first | assumption | exact cell_kp (by assumption) (by assumption)) | ((with_reducible apply Rt.ckR); focus ((repeat (first | (with_reducible (first | refine Rt.fin ?_ | refine Rt.tL ?_ | refine Rt.tI ?_ | refine Rt.tB ?_ | refine Rt.tS ?_ | refine Rt.tP ?_ | refine Rt.tD ?_ | refine Rt.tM ?_ | refine Rt.tC ?_ | refine Rt.tN ?_ | refine Rt.tA ?_ | refine Rt.tG ?_ | refine Rt.tF ?_ | refine Rt.os ?_ | refine Rt.clS ?_ | refine Rt.jmN ?_ | refine Rt.jbN ?_ | refine Rt.jbE ?_)) | ((with_reducible (first | apply Rt.ld0 | apply Rt.ld1 | apply Rt.ld2 | apply Rt.ld3 | apply Rt.ld4 | apply Rt.ld5)); first | assumption | exact Lc.kp (by assumption) (by assumption)) | ((with_reducible apply Rt.ol); first | assumption | exact cell_kp (by assumption) (by assumption)))); exact Rt.some' rfl))))
  refine Rt.cBo (Right_spec hx (by omega)) fun b w1 hb k1 => ?_
  have hb' : b = decide (mo ≤ 0) := by
    rw [Bool.eq_iff_iff, hb, hr]; simp
  have l1 := hl.kp k1
  subst hb'
  refine Rt.cT (by simp) ?_
  (repeat (first | (with_reducible (first | refine Rt.fin ?_ | refine Rt.tL ?_ | refine Rt.tI ?_ | refine Rt.tB ?_ | refine Rt.tS ?_ | refine Rt.tP ?_ | refine Rt.tD ?_ | refine Rt.tM ?_ | refine Rt.tC ?_ | refine Rt.tN ?_ | refine Rt.tA ?_ | refine Rt.tG ?_ | refine Rt.tF ?_ | refine Rt.os ?_ | refine Rt.clS ?_ | refine Rt.jmN ?_ | refine Rt.jbN ?_ | refine Rt.jbE ?_)) | ((with_reducible (first | apply Rt.ld0 | apply Rt.ld1 | apply Rt.ld2 | apply Rt.ld3 | apply Rt.ld4 | apply Rt.ld5)); first | assumption | exact Lc.kp (by assumption) (by assumption)) | ((with_reducible apply Rt.ol); first | assumption | exact cell_kp (by assumption) (by assumption)) | ((with_reducible apply Rt.ckR); focus ((repeat (first | (with_reducible (first | refine Rt.fin ?_ | refine Rt.tL ?_ | refine Rt.tI ?_ | refine Rt.tB ?_ | refine Rt.tS ?_ | refine Rt.tP ?_ | refine Rt.tD ?_ | refine Rt.tM ?_ | refine Rt.tC ?_ | refine Rt.tN ?_ | refine Rt.tA ?_ | refine Rt.tG ?_ | refine Rt.tF ?_ | refine Rt.os ?_ | refine Rt.clS ?_ | refine Rt.jmN ?_ | refine Rt.jbN ?_ | refine Rt.jbE ?_)) | ((with_reducible (first | apply Rt.ld0 | apply Rt.ld1 | apply Rt.ld2 | apply Rt.ld3 | apply Rt.ld4 | apply Rt.ld5)); first | assumption | exact Lc.kp (by assumption) (by assumption)) | ((with_reducible apply Rt.ol); first | assumption | exact cell_kp (by assumption) (by assumption)))); exact Rt.some' rfl))))
  refine Rt.cO (Bytes_spec (hx.kp k1) hn) fun D d' w2 o2 k2 => ?_
  refine Rt.endB ?_ ((hk.tr k1).tr k2)
  have : (0 < (bytesE e).length) ↔ mo ≤ 0 := bytesE_pos.trans hr
  simp only [iff_true, beq_iff_eq]
  rw [Bool.eq_iff_iff]
  simp only [decide_eq_true_eq]
  omega
def run1 (f b c : Int) (s : Int) : RunD := ⟨f, b, c, [97], [98], s⟩
theorem lim_l0 {rb eb : Nat} {mo : Int} (hmo : -1 ≤ mo ∧ mo ≤ 1) {X : Value} {vs : List Value} (h1 : w0.heap.size ≤ rb) (h2 : w0.heap.size ≤ eb) (hne : rb ≠ eb) (hbr : rb < base) (hbe : eb < base) {a b' : Addr} {la ca lb cb : Nat} (ha : A = some a) (hb : B = some b') (ha' : a.block < rb ∧ a.block < eb) (hb'' : b'.block < rb ∧ b'.block < eb) :
    ∀ (q i j : Nat) (w : World) (R : Option Addr) (d : Nat) (f : Int) (rs : List RunD), (i : Int) + q = 100 + mo → q < j → Kp w0 w → base ≤ w.heap.size → Bv .u8 w A 1 ca [97] → Bv .u8 w B 1 cb [98] → Lc w rb [.int .i64 f, .int .i64 1, .int .i64 1, .slice A 1 ca, .slice B 1 cb, .int .u64 1] → Lc w eb (.slice R rs.length d :: vs) → rs = (List.range i).map (fun (k : Nat) => run1 ((k : Int) + 1) 1 1 1) → OwnX (fun k => k = rb ∨ k = eb) runEl 33 w base (.slice R rs.length d) rs →
    Rt (butterylaw16_EditLimits.l0 n j mo ⟨rb, 0, none⟩ ⟨eb, 0, none⟩ (i : Int) w) fun r => r.ex = .exit 1 ∧ r.vals = [.int .i64 mo, .pointer (some ⟨eb, 0, none⟩)] ∧ Kp w0 r.w ∧ ∃ R d rs, Lc r.w eb (.slice R (List.length rs) d :: vs) ∧ rs = (List.range (100 + mo).toNat).map (fun (k : Nat) => run1 ((k : Int) + 1) 1 1 1) ∧ OwnX (fun k => k = rb ∨ k = eb) runEl 33 r.w base (.slice R rs.length d) rs := by
  obtain ⟨ti, tz, hT⟩ := slR
  have e100 : IntKind.i64.wrap (100 + mo) = 100 + mo := i64_in _ (by omega)
  intro q
  induction q with
  | zero =>
    intro i j w R d f rs hi hj hk hbs hA hB lr le hrs ho
    obtain ⟨j, rfl⟩ : ∃ j', j = j' + 1 := ⟨j - 1, by omega⟩
    rw [butterylaw16_EditLimits.l0_succ, e100]
    refine Rt.cDF (by omega) (Rt.some' ⟨rfl, rfl, hk, R, d, rs, le, ?_, ho⟩)
    rw [hrs, show i = (100 + mo).toNat by omega]
  | succ q ih =>
    intro i j w R d f rs hi hj hk hbs hA hB lr le hrs ho
    obtain ⟨j, rfl⟩ : ∃ j', j = j' + 1 := ⟨j - 1, by omega⟩
    rw [butterylaw16_EditLimits.l0_succ, e100]
    have hi1 : IntKind.i64.wrap ((i : Int) + 1) = ((i + 1 : Nat) : Int) := by rw [i64_in _ (by omega)]; omega
    rw [hi1]
    refine Rt.cDT (by omega) (Rt.st0 lr fun w1 l1 g1 => ?_)
    have lei := le.gx g1 (by omega)
    have hA1 := Bv.gx hA g1 (by intro a2 h; rw [ha] at h; injection h with h; subst h; omega)
    have hB1 := Bv.gx hB g1 (by intro a2 h; rw [hb] at h; injection h with h; subst h; omega)
    have ho1 := ho.gx g1 (fun k _ e => .inl e) fun k hk' hv => by have := (ho.lt _ hv).1; omega
    have k1 := hk.tx g1 fun j hj => by omega
    have hs1 := g1.size
    (repeat (first | (with_reducible (first | refine Rt.fin ?_ | refine Rt.tL ?_ | refine Rt.tI ?_ | refine Rt.tB ?_ | refine Rt.tS ?_ | refine Rt.tP ?_ | refine Rt.tD ?_ | refine Rt.tM ?_ | refine Rt.tC ?_ | refine Rt.tN ?_ | refine Rt.tA ?_ | refine Rt.tG ?_ | refine Rt.tF ?_ | refine Rt.os ?_ | refine Rt.clS ?_ | refine Rt.jmN ?_ | refine Rt.jbN ?_ | refine Rt.jbE ?_)) | ((with_reducible (first | apply Rt.ld0 | apply Rt.ld1 | apply Rt.ld2 | apply Rt.ld3 | apply Rt.ld4 | apply Rt.ld5)); first | assumption | exact Lc.kp (by assumption) (by assumption)) | ((with_reducible apply Rt.ol); first | assumption | exact cell_kp (by assumption) (by assumption)) | ((with_reducible apply Rt.ckR); focus ((repeat (first | (with_reducible (first | refine Rt.fin ?_ | refine Rt.tL ?_ | refine Rt.tI ?_ | refine Rt.tB ?_ | refine Rt.tS ?_ | refine Rt.tP ?_ | refine Rt.tD ?_ | refine Rt.tM ?_ | refine Rt.tC ?_ | refine Rt.tN ?_ | refine Rt.tA ?_ | refine Rt.tG ?_ | refine Rt.tF ?_ | refine Rt.os ?_ | refine Rt.clS ?_ | refine Rt.jmN ?_ | refine Rt.jbN ?_ | refine Rt.jbE ?_)) | ((with_reducible (first | apply Rt.ld0 | apply Rt.ld1 | apply Rt.ld2 | apply Rt.ld3 | apply Rt.ld4 | apply Rt.ld5)); first | assumption | exact Lc.kp (by assumption) (by assumption)) | ((with_reducible apply Rt.ol); first | assumption | exact cell_kp (by assumption) (by assumption)))); exact Rt.some' rfl))))
    refine Rt.al fun w2 l2 k2 s2 => ?_
    have hs2 := k2.size
    have hrl : rs.length = i := by rw [hrs]; simp
    refine Rt.app1L rfl hT (ho1.kp k2) l2 rfl (x := run1 ((i : Int) + 1) 1 1 1) (fun w' hg => ⟨_, _, _, _, _, _, _, _, _, _, rfl, by show ((i + 1 : Nat) : Int) = (i : Int) + 1; omega, rfl, rfl, rfl, i64wf (by show -2 ^ 63 ≤ (i : Int) + 1 ∧ (i : Int) + 1 < 2 ^ 63; omega), (show (Lit.int .i64 1).wf = true by decide), (show (Lit.int .i64 1).wf = true by decide), (show (Lit.int .u64 1).wf = true by decide), ?_, ?_⟩) (by omega) (by omega) fun R3 d3 w3 o3 g3 s3 => ?_
    · refine Bv.gx (hA1.kp k2) hg ?_
      rintro a2 h (h' | h')
      · rw [ha] at h; injection h with h; subst h; omega
      · rw [ha] at h; injection h with h; subst h; have := (ho1.lt _ h').1; omega
    · refine Bv.gx (hB1.kp k2) hg ?_
      rintro a2 h (h' | h')
      · rw [hb] at h; injection h with h; subst h; omega
      · rw [hb] at h; injection h with h; subst h; have := (ho1.lt _ h').1; omega
    · (repeat (first | (with_reducible (first | refine Rt.fin ?_ | refine Rt.tL ?_ | refine Rt.tI ?_ | refine Rt.tB ?_ | refine Rt.tS ?_ | refine Rt.tP ?_ | refine Rt.tD ?_ | refine Rt.tM ?_ | refine Rt.tC ?_ | refine Rt.tN ?_ | refine Rt.tA ?_ | refine Rt.tG ?_ | refine Rt.tF ?_ | refine Rt.os ?_ | refine Rt.clS ?_ | refine Rt.jmN ?_ | refine Rt.jbN ?_ | refine Rt.jbE ?_)) | ((with_reducible (first | apply Rt.ld0 | apply Rt.ld1 | apply Rt.ld2 | apply Rt.ld3 | apply Rt.ld4 | apply Rt.ld5)); first | assumption | exact Lc.kp (by assumption) (by assumption)) | ((with_reducible apply Rt.ol); first | assumption | exact cell_kp (by assumption) (by assumption)) | ((with_reducible apply Rt.ckR); focus ((repeat (first | (with_reducible (first | refine Rt.fin ?_ | refine Rt.tL ?_ | refine Rt.tI ?_ | refine Rt.tB ?_ | refine Rt.tS ?_ | refine Rt.tP ?_ | refine Rt.tD ?_ | refine Rt.tM ?_ | refine Rt.tC ?_ | refine Rt.tN ?_ | refine Rt.tA ?_ | refine Rt.tG ?_ | refine Rt.tF ?_ | refine Rt.os ?_ | refine Rt.clS ?_ | refine Rt.jmN ?_ | refine Rt.jbN ?_ | refine Rt.jbE ?_)) | ((with_reducible (first | apply Rt.ld0 | apply Rt.ld1 | apply Rt.ld2 | apply Rt.ld3 | apply Rt.ld4 | apply Rt.ld5)); first | assumption | exact Lc.kp (by assumption) (by assumption)) | ((with_reducible apply Rt.ol); first | assumption | exact cell_kp (by assumption) (by assumption)))); exact Rt.some' rfl))))
      have hov := ho1.lt
      have le3 := (lei.kp k2).gx g3 fun h => by have := (hov _ h).1; omega
      have lr3 := (l1.kp k2).gx g3 fun h => by have := (hov _ h).1; omega
      refine Rt.st0 le3 fun w4 l4 g4 => ?_
      have el : (rs ++ [run1 ((i : Int) + 1) 1 1 1]).length = rs.length + 1 := by simp
      have hs4 := g4.size
      have gAB : ∀ {C : Option Addr} {cc : Nat} {zs : List Int}, (∀ a, C = some a → a.block < rb ∧ a.block < eb) → Bv .u8 w2 C 1 cc zs → Bv .u8 w4 C 1 cc zs := by
        intro C cc zs hC h
        refine Bv.gx (Bv.gx h g3 ?_) g4 ?_
        · intro a2 h2 h'; have := hC a2 h2; have := (hov _ h').1; omega
        · intro a2 h2 h'; have := hC a2 h2; omega
      refine ih (i + 1) j w4 R3 d3 _ (rs ++ [run1 ((i : Int) + 1) 1 1 1]) (by omega) (by omega) (((k1.tr k2).tx g3 fun j hj => by have := (hov _ hj).1; omega).tx g4 fun j hj => by omega) (by omega) (gAB (by intro a2 h2; rw [ha] at h2; injection h2 with h2; subst h2; exact ha') (hA1.kp k2)) (gAB (by intro a2 h2; rw [hb] at h2; injection h2 with h2; subst h2; exact hb'') (hB1.kp k2)) (lr3.gx g4 hne) (by rw [el]; exact l4) ?_ ?_
      · rw [List.range_succ, List.map_append, hrs]; rfl
      · rw [el]
        exact o3.gx g4 (fun k _ e => .inr e) fun k hk' hv => by have := (o3.lt _ hv).1; omega
theorem lim_l1 {eb : Nat} {mo : Int} (hmo : -1 ≤ mo ∧ mo ≤ 1) {X : Value} {vs : List Value} (h2 : w0.heap.size ≤ eb) (hbe : eb < base) :
    ∀ (q i j : Nat) (w : World) (R : Option Addr) (d : Nat) (rs : List Int), (i : Int) + q = 100 + mo → q < j → Kp w0 w → base ≤ w.heap.size → Lc w eb (X :: .slice R rs.length d :: vs) → rs = (List.range i).map (fun (k : Nat) => (k : Int) + 1) → Own .i64 3 w base (.slice R rs.length d) rs →
    Rt (butterylaw16_EditLimits.l1 n j mo ⟨eb, 0, none⟩ (i : Int) w) fun r => r.ex = .exit 3 ∧ r.vals = [.int .i64 mo, .pointer (some ⟨eb, 0, none⟩)] ∧ Kp w0 r.w ∧ (w.heap.size ≤ r.w.heap.size ∧ Gx (fun k => k = eb ∨ base ≤ k) w r.w) ∧ ∃ R d rs, Lc r.w eb (X :: .slice R (List.length rs) d :: vs) ∧ rs = (List.range (100 + mo).toNat).map (fun (k : Nat) => (k : Int) + 1) ∧ Own .i64 3 r.w base (.slice R rs.length d) rs := by
  obtain ⟨ti, hT⟩ := slI
  have e100 : IntKind.i64.wrap (100 + mo) = 100 + mo := i64_in _ (by omega)
  intro q
  induction q with
  | zero =>
    intro i j w R d rs hi hj hk hbs le hrs ho
    obtain ⟨j, rfl⟩ : ∃ j', j = j' + 1 := ⟨j - 1, by omega⟩
    rw [butterylaw16_EditLimits.l1_succ, e100]
    refine Rt.cDF (by omega) (Rt.some' ⟨rfl, rfl, hk, ⟨Nat.le_refl _, Gx.rfl' _ _⟩, R, d, rs, le, ?_, ho⟩)
    rw [hrs, show i = (100 + mo).toNat by omega]
  | succ q ih =>
    intro i j w R d rs hi hj hk hbs le hrs ho
    obtain ⟨j, rfl⟩ : ∃ j', j = j' + 1 := ⟨j - 1, by omega⟩
    rw [butterylaw16_EditLimits.l1_succ, e100]
    have hi1 : IntKind.i64.wrap ((i : Int) + 1) = ((i + 1 : Nat) : Int) := by rw [i64_in _ (by omega)]; omega
    have hrl : rs.length = i := by rw [hrs]; simp
    rw [hi1]
    refine Rt.cDT (by omega) ?_
    (repeat (first | (with_reducible (first | refine Rt.fin ?_ | refine Rt.tL ?_ | refine Rt.tI ?_ | refine Rt.tB ?_ | refine Rt.tS ?_ | refine Rt.tP ?_ | refine Rt.tD ?_ | refine Rt.tM ?_ | refine Rt.tC ?_ | refine Rt.tN ?_ | refine Rt.tA ?_ | refine Rt.tG ?_ | refine Rt.tF ?_ | refine Rt.os ?_ | refine Rt.clS ?_ | refine Rt.jmN ?_ | refine Rt.jbN ?_ | refine Rt.jbE ?_)) | ((with_reducible (first | apply Rt.ld0 | apply Rt.ld1 | apply Rt.ld2 | apply Rt.ld3 | apply Rt.ld4 | apply Rt.ld5)); first | assumption | exact Lc.kp (by assumption) (by assumption)) | ((with_reducible apply Rt.ol); first | assumption | exact cell_kp (by assumption) (by assumption)) | ((with_reducible apply Rt.ckR); focus ((repeat (first | (with_reducible (first | refine Rt.fin ?_ | refine Rt.tL ?_ | refine Rt.tI ?_ | refine Rt.tB ?_ | refine Rt.tS ?_ | refine Rt.tP ?_ | refine Rt.tD ?_ | refine Rt.tM ?_ | refine Rt.tC ?_ | refine Rt.tN ?_ | refine Rt.tA ?_ | refine Rt.tG ?_ | refine Rt.tF ?_ | refine Rt.os ?_ | refine Rt.clS ?_ | refine Rt.jmN ?_ | refine Rt.jbN ?_ | refine Rt.jbE ?_)) | ((with_reducible (first | apply Rt.ld0 | apply Rt.ld1 | apply Rt.ld2 | apply Rt.ld3 | apply Rt.ld4 | apply Rt.ld5)); first | assumption | exact Lc.kp (by assumption) (by assumption)) | ((with_reducible apply Rt.ol); first | assumption | exact cell_kp (by assumption) (by assumption)))); exact Rt.some' rfl))))
    refine Rt.al fun w1 l1 k1 s1 => ?_
    have hs1 := k1.size
    refine Rt.push hT (ho.kp k1) l1 (by omega) (by omega) fun R2 d2 w2 o2 f2 g2 => ?_
    (repeat (first | (with_reducible (first | refine Rt.fin ?_ | refine Rt.tL ?_ | refine Rt.tI ?_ | refine Rt.tB ?_ | refine Rt.tS ?_ | refine Rt.tP ?_ | refine Rt.tD ?_ | refine Rt.tM ?_ | refine Rt.tC ?_ | refine Rt.tN ?_ | refine Rt.tA ?_ | refine Rt.tG ?_ | refine Rt.tF ?_ | refine Rt.os ?_ | refine Rt.clS ?_ | refine Rt.jmN ?_ | refine Rt.jbN ?_ | refine Rt.jbE ?_)) | ((with_reducible (first | apply Rt.ld0 | apply Rt.ld1 | apply Rt.ld2 | apply Rt.ld3 | apply Rt.ld4 | apply Rt.ld5)); first | assumption | exact Lc.kp (by assumption) (by assumption)) | ((with_reducible apply Rt.ol); first | assumption | exact cell_kp (by assumption) (by assumption)) | ((with_reducible apply Rt.ckR); focus ((repeat (first | (with_reducible (first | refine Rt.fin ?_ | refine Rt.tL ?_ | refine Rt.tI ?_ | refine Rt.tB ?_ | refine Rt.tS ?_ | refine Rt.tP ?_ | refine Rt.tD ?_ | refine Rt.tM ?_ | refine Rt.tC ?_ | refine Rt.tN ?_ | refine Rt.tA ?_ | refine Rt.tG ?_ | refine Rt.tF ?_ | refine Rt.os ?_ | refine Rt.clS ?_ | refine Rt.jmN ?_ | refine Rt.jbN ?_ | refine Rt.jbE ?_)) | ((with_reducible (first | apply Rt.ld0 | apply Rt.ld1 | apply Rt.ld2 | apply Rt.ld3 | apply Rt.ld4 | apply Rt.ld5)); first | assumption | exact Lc.kp (by assumption) (by assumption)) | ((with_reducible apply Rt.ol); first | assumption | exact cell_kp (by assumption) (by assumption)))); exact Rt.some' rfl))))
    have hov := ho.lt
    have le2 := (le.kp k1).gx g2 fun h => by have := (hov _ h).1; omega
    refine Rt.st1 le2 fun w3 l3 g3 => ?_
    have hs2 := g2.size
    have hs3 := g3.size
    have el : (rs ++ [((i + 1 : Nat) : Int)]).length = rs.length + 1 := by simp
    refine Rt.mono (ih (i + 1) j w3 R2 d2 (rs ++ [((i + 1 : Nat) : Int)]) (by omega) (by omega) (((hk.tr k1).tx g2 fun j hj => by have := (hov _ hj).1; omega).tx g3 fun j hj => by omega) (by omega) (by rw [el]; exact l3) ?_ ?_) ?_
    · rw [List.range_succ, List.map_append, hrs]; rfl
    · rw [el]; exact o2.gx g3 fun j hj e => by have := (o2.lt _ hj).1; omega
    · rintro r ⟨r1, r2, r3, ⟨r4, r5⟩, r6⟩
      refine ⟨r1, r2, r3, ⟨by omega, ?_⟩, r6⟩
      exact ((k1.gx.tr (g2.wide fun j _ hj => .inr (hov _ hj).1)).tr (g3.wide fun j _ hj => .inl hj)).tr r5
end
end Go.Proofs.Ytdnbpgakmbamoaa.Ed
