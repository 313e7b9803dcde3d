/- Edits: the laws of bytes. -/
import Derived.Test.YtdnbpgakmbamoaaE13
import Derived.Test.YtdnbpgakmbamoaaM5
namespace Go.Proofs.Ytdnbpgakmbamoaa.Ed
open Go Big Go.RowKit Go.IntWalk Cm Var Low Par
set_option linter.unusedVariables false
set_option linter.unusedSimpArgs false
set_option linter.unusedSectionVars false
def bigE (x : EditD) : Prop := (∃ r ∈ x.add, r.first.length > 300 ∨ r.last.length > 300) ∨ x.add.length > 110 ∨ x.drop.length > 110
theorem bytesE_len {e : EditD} : (bytesE e).length ≤ 2 ^ 30 := by
  unfold bytesE
  by_cases h : rightE e
  · rw [if_pos h]
    obtain ⟨h1, h2, h3, h4, h5, ⟨h6, _⟩, h8, _⟩ := h
    have a1 := encA_len h6
    have a2 := encN_len (l := e.drop) fun f hf => by have := h8 f hf; omega
    have b1 := enc_len10 (x := e.add.length) (by omega)
    have b2 := enc_len10 (x := e.drop.length) (by omega)
    have b3 := enc_len10 (x := e.next.toNat) (by omega)
    have b4 := enc_len10 (x := e.log.toNat) (by omega)
    have b5 := enc_len10 (x := e.seq.toNat) (by omega)
    simp only [encE, List.length_append]
    omega
  · rw [if_neg h]; simp
section
variable {α : Type} {Q : α → Prop} {n : Nat} {w w0 : World} {A B C D : Option Addr} {l c m d p i q r : Nat} {k s s' : Int} {xs ys : List RunD} {bs zs : List Int} {e x y : EditD} {en el es : Int}
theorem allRuns (hx : Ev runEl w A l c xs) : ∀ o ∈ xs, (∀ z ∈ o.first, (Lit.int .u8 z).wf = true) ∧ ∀ z ∈ o.last, (Lit.int .u8 z).wf = true := by
  intro o ho
  obtain ⟨i, hi, rfl⟩ := List.getElem_of_mem ho
  have hxl := hx.len
  obtain ⟨x, a, us, e1, _, _, e4, _⟩ := hx.sl.at_ (i := (i : Int)) (by omega) (by omega)
  rw [Int.toNat_natCast, List.getElem?_eq_getElem hi] at e1
  injection e1 with e1
  obtain ⟨f, b, c, A, l, p, B, m, q, s, _, hv⟩ := e4
  rw [e1]
  exact ⟨hv.first.rng, hv.last.rng⟩
theorem bytesE_wf (hx : EditV w A l c B m d en el es e) : ∀ z ∈ bytesE e, (Lit.int .u8 z).wf = true := by
  unfold bytesE
  by_cases h : rightE e
  · rw [if_pos h]
    obtain ⟨h1, h2, h3, h4, h5, ⟨h6, _⟩, h8, _⟩ := h
    have hr := allRuns hx.add
    have wE : ∀ {v : Nat}, v < 2 ^ 64 → ∀ z ∈ enc v, (Lit.int .u8 z).wf = true := fun h => enc_wf h
    intro z hz
    unfold encE at hz
    simp only [List.mem_append] at hz
    rcases hz with (((((hz | hz) | hz) | hz) | hz) | hz) | hz
    · exact wE (by omega) z hz
    · obtain ⟨v, hv, hzv⟩ := List.mem_flatten.1 hz
      obtain ⟨o, ho, rfl⟩ := List.mem_map.1 hv
      obtain ⟨q1, q2, q3, q4, q5, _, q6⟩ := h6 o ho
      obtain ⟨b1, b2⟩ := hr o ho
      unfold encR at hzv
      simp only [List.mem_append] at hzv
      rcases hzv with ((((((hzv | hzv) | hzv) | hzv) | hzv) | hzv) | hzv) | hzv
      · exact wE (by omega) z hzv
      · exact wE (by omega) z hzv
      · exact wE (by omega) z hzv
      · exact wE (by omega) z hzv
      · exact b1 z hzv
      · exact wE (by omega) z hzv
      · exact b2 z hzv
      · exact wE (by omega) z hzv
    · exact wE (by omega) z hz
    · obtain ⟨v, hv, hzv⟩ := List.mem_flatten.1 hz
      obtain ⟨o, ho, rfl⟩ := List.mem_map.1 hv
      have := h8 o ho
      exact wE (by omega) z hzv
    · exact wE (by omega) z hz
    · exact wE (by omega) z hz
    · exact wE (by omega) z hz
  · rw [if_neg h]; exact fun z hz => by cases hz
theorem Big_l0 (hs : Ev runEl w A l c xs) {x1 : Nat} {cs : List Value} (hlc : Lc w x1 (.slice A l c :: cs)) : ∀ (q i j : Nat), i + q = l → q < j → (∀ r ∈ xs.take i, ¬ (r.first.length > 300 ∨ r.last.length > 300)) →
    Rt (butterylaw16_Big.l0 n j ⟨x1, 0, none⟩ (i : Int) w) fun r => r.w = w ∧ (r.ex = .exit 0 ∧ r.vals = [.pointer (some ⟨x1, 0, none⟩)] ∧ (∀ r ∈ xs, ¬ (r.first.length > 300 ∨ r.last.length > 300)) ∨ r.ex = .ret ∧ r.vals = [.bool true] ∧ ∃ r ∈ xs, r.first.length > 300 ∨ r.last.length > 300) := by
  intro q
  have hxl := hs.len
  have hmx : l < 2 ^ 63 := by
    have := hs.cap; have := hs.max
    have hm : maxLen = 2 ^ 63 - 1 := rfl
    omega
  induction q with
  | zero =>
    intro i j hi hj hg
    obtain ⟨j, rfl⟩ : ∃ j', j = j' + 1 := ⟨j - 1, by omega⟩
    rw [butterylaw16_Big.l0_succ]
    (repeat (first | (with_reducible (first | refine Rt.fin ?_ | refine Rt.tL ?_ | refine Rt.tI ?_ | refine Rt.tB ?_ | refine Rt.tS ?_ | refine Rt.tP ?_ | refine Rt.tD ?_ | refine Rt.tM ?_ | refine Rt.tC ?_ | refine Rt.tN ?_ | refine Rt.tA ?_ | refine Rt.tG ?_ | refine Rt.tF ?_ | refine Rt.os ?_ | refine Rt.clS ?_ | refine Rt.jmN ?_ | refine Rt.jbN ?_ | refine Rt.jbE ?_)) | ((with_reducible (first | apply Rt.ld0 | apply Rt.ld1 | apply Rt.ld2 | apply Rt.ld3 | apply Rt.ld4 | apply Rt.ld5)); first | assumption | exact Lc.kp (by assumption) (by assumption)) | ((with_reducible apply Rt.ol); first | assumption | exact cell_kp (by assumption) (by assumption)) | ((with_reducible apply Rt.ckR); focus ((repeat (first | (with_reducible (first | refine Rt.fin ?_ | refine Rt.tL ?_ | refine Rt.tI ?_ | refine Rt.tB ?_ | refine Rt.tS ?_ | refine Rt.tP ?_ | refine Rt.tD ?_ | refine Rt.tM ?_ | refine Rt.tC ?_ | refine Rt.tN ?_ | refine Rt.tA ?_ | refine Rt.tG ?_ | refine Rt.tF ?_ | refine Rt.os ?_ | refine Rt.clS ?_ | refine Rt.jmN ?_ | refine Rt.jbN ?_ | refine Rt.jbE ?_)) | ((with_reducible (first | apply Rt.ld0 | apply Rt.ld1 | apply Rt.ld2 | apply Rt.ld3 | apply Rt.ld4 | apply Rt.ld5)); first | assumption | exact Lc.kp (by assumption) (by assumption)) | ((with_reducible apply Rt.ol); first | assumption | exact cell_kp (by assumption) (by assumption)))); exact Rt.some' rfl))))
    rw [List.take_of_length_le (by omega)] at hg
    exact Rt.cDF (by omega) (Rt.some' ⟨rfl, .inl ⟨rfl, rfl, hg⟩⟩)
  | succ q ih =>
    intro i j hi hj hg
    obtain ⟨j, rfl⟩ : ∃ j', j = j' + 1 := ⟨j - 1, by omega⟩
    rw [butterylaw16_Big.l0_succ]
    (repeat (first | (with_reducible (first | refine Rt.fin ?_ | refine Rt.tL ?_ | refine Rt.tI ?_ | refine Rt.tB ?_ | refine Rt.tS ?_ | refine Rt.tP ?_ | refine Rt.tD ?_ | refine Rt.tM ?_ | refine Rt.tC ?_ | refine Rt.tN ?_ | refine Rt.tA ?_ | refine Rt.tG ?_ | refine Rt.tF ?_ | refine Rt.os ?_ | refine Rt.clS ?_ | refine Rt.jmN ?_ | refine Rt.jbN ?_ | refine Rt.jbE ?_)) | ((with_reducible (first | apply Rt.ld0 | apply Rt.ld1 | apply Rt.ld2 | apply Rt.ld3 | apply Rt.ld4 | apply Rt.ld5)); first | assumption | exact Lc.kp (by assumption) (by assumption)) | ((with_reducible apply Rt.ol); first | assumption | exact cell_kp (by assumption) (by assumption)) | ((with_reducible apply Rt.ckR); focus ((repeat (first | (with_reducible (first | refine Rt.fin ?_ | refine Rt.tL ?_ | refine Rt.tI ?_ | refine Rt.tB ?_ | refine Rt.tS ?_ | refine Rt.tP ?_ | refine Rt.tD ?_ | refine Rt.tM ?_ | refine Rt.tC ?_ | refine Rt.tN ?_ | refine Rt.tA ?_ | refine Rt.tG ?_ | refine Rt.tF ?_ | refine Rt.os ?_ | refine Rt.clS ?_ | refine Rt.jmN ?_ | refine Rt.jbN ?_ | refine Rt.jbE ?_)) | ((with_reducible (first | apply Rt.ld0 | apply Rt.ld1 | apply Rt.ld2 | apply Rt.ld3 | apply Rt.ld4 | apply Rt.ld5)); first | assumption | exact Lc.kp (by assumption) (by assumption)) | ((with_reducible apply Rt.ol); first | assumption | exact cell_kp (by assumption) (by assumption)))); exact Rt.some' rfl))))
    refine Rt.cDT (by omega) ?_
    (repeat (first | (with_reducible (first | refine Rt.fin ?_ | refine Rt.tL ?_ | refine Rt.tI ?_ | refine Rt.tB ?_ | refine Rt.tS ?_ | refine Rt.tP ?_ | refine Rt.tD ?_ | refine Rt.tM ?_ | refine Rt.tC ?_ | refine Rt.tN ?_ | refine Rt.tA ?_ | refine Rt.tG ?_ | refine Rt.tF ?_ | refine Rt.os ?_ | refine Rt.clS ?_ | refine Rt.jmN ?_ | refine Rt.jbN ?_ | refine Rt.jbE ?_)) | ((with_reducible (first | apply Rt.ld0 | apply Rt.ld1 | apply Rt.ld2 | apply Rt.ld3 | apply Rt.ld4 | apply Rt.ld5)); first | assumption | exact Lc.kp (by assumption) (by assumption)) | ((with_reducible apply Rt.ol); first | assumption | exact cell_kp (by assumption) (by assumption)) | ((with_reducible apply Rt.ckR); focus ((repeat (first | (with_reducible (first | refine Rt.fin ?_ | refine Rt.tL ?_ | refine Rt.tI ?_ | refine Rt.tB ?_ | refine Rt.tS ?_ | refine Rt.tP ?_ | refine Rt.tD ?_ | refine Rt.tM ?_ | refine Rt.tC ?_ | refine Rt.tN ?_ | refine Rt.tA ?_ | refine Rt.tG ?_ | refine Rt.tF ?_ | refine Rt.os ?_ | refine Rt.clS ?_ | refine Rt.jmN ?_ | refine Rt.jbN ?_ | refine Rt.jbE ?_)) | ((with_reducible (first | apply Rt.ld0 | apply Rt.ld1 | apply Rt.ld2 | apply Rt.ld3 | apply Rt.ld4 | apply Rt.ld5)); first | assumption | exact Lc.kp (by assumption) (by assumption)) | ((with_reducible apply Rt.ol); first | assumption | exact cell_kp (by assumption) (by assumption)))); exact Rt.some' rfl))))
    refine Rt.ixR hs.sl (by omega) (by omega) fun x a f b c' C p q' D g v s ex hv c0 c1 c2 c3 c4 c5 => ?_
    rw [Int.toNat_natCast] at ex
    have hmem := List.mem_of_getElem? ex
    have hf := hv.first.len
    have hl := hv.last.len
    (repeat (first | (with_reducible (first | refine Rt.fin ?_ | refine Rt.tL ?_ | refine Rt.tI ?_ | refine Rt.tB ?_ | refine Rt.tS ?_ | refine Rt.tP ?_ | refine Rt.tD ?_ | refine Rt.tM ?_ | refine Rt.tC ?_ | refine Rt.tN ?_ | refine Rt.tA ?_ | refine Rt.tG ?_ | refine Rt.tF ?_ | refine Rt.os ?_ | refine Rt.clS ?_ | refine Rt.jmN ?_ | refine Rt.jbN ?_ | refine Rt.jbE ?_)) | ((with_reducible (first | apply Rt.ld0 | apply Rt.ld1 | apply Rt.ld2 | apply Rt.ld3 | apply Rt.ld4 | apply Rt.ld5)); first | assumption | exact Lc.kp (by assumption) (by assumption)) | ((with_reducible apply Rt.ol); first | assumption | exact cell_kp (by assumption) (by assumption)) | ((with_reducible apply Rt.ckR); focus ((repeat (first | (with_reducible (first | refine Rt.fin ?_ | refine Rt.tL ?_ | refine Rt.tI ?_ | refine Rt.tB ?_ | refine Rt.tS ?_ | refine Rt.tP ?_ | refine Rt.tD ?_ | refine Rt.tM ?_ | refine Rt.tC ?_ | refine Rt.tN ?_ | refine Rt.tA ?_ | refine Rt.tG ?_ | refine Rt.tF ?_ | refine Rt.os ?_ | refine Rt.clS ?_ | refine Rt.jmN ?_ | refine Rt.jbN ?_ | refine Rt.jbE ?_)) | ((with_reducible (first | apply Rt.ld0 | apply Rt.ld1 | apply Rt.ld2 | apply Rt.ld3 | apply Rt.ld4 | apply Rt.ld5)); first | assumption | exact Lc.kp (by assumption) (by assumption)) | ((with_reducible apply Rt.ol); first | assumption | exact cell_kp (by assumption) (by assumption)))); exact Rt.some' rfl))))
    refine Rt.cD (fun h => Rt.some' ⟨rfl, .inr ⟨rfl, rfl, x, hmem, .inl (by omega)⟩⟩) fun h1 => ?_
    (repeat (first | (with_reducible (first | refine Rt.fin ?_ | refine Rt.tL ?_ | refine Rt.tI ?_ | refine Rt.tB ?_ | refine Rt.tS ?_ | refine Rt.tP ?_ | refine Rt.tD ?_ | refine Rt.tM ?_ | refine Rt.tC ?_ | refine Rt.tN ?_ | refine Rt.tA ?_ | refine Rt.tG ?_ | refine Rt.tF ?_ | refine Rt.os ?_ | refine Rt.clS ?_ | refine Rt.jmN ?_ | refine Rt.jbN ?_ | refine Rt.jbE ?_)) | ((with_reducible (first | apply Rt.ld0 | apply Rt.ld1 | apply Rt.ld2 | apply Rt.ld3 | apply Rt.ld4 | apply Rt.ld5)); first | assumption | exact Lc.kp (by assumption) (by assumption)) | ((with_reducible apply Rt.ol); first | assumption | exact cell_kp (by assumption) (by assumption)) | ((with_reducible apply Rt.ckR); focus ((repeat (first | (with_reducible (first | refine Rt.fin ?_ | refine Rt.tL ?_ | refine Rt.tI ?_ | refine Rt.tB ?_ | refine Rt.tS ?_ | refine Rt.tP ?_ | refine Rt.tD ?_ | refine Rt.tM ?_ | refine Rt.tC ?_ | refine Rt.tN ?_ | refine Rt.tA ?_ | refine Rt.tG ?_ | refine Rt.tF ?_ | refine Rt.os ?_ | refine Rt.clS ?_ | refine Rt.jmN ?_ | refine Rt.jbN ?_ | refine Rt.jbE ?_)) | ((with_reducible (first | apply Rt.ld0 | apply Rt.ld1 | apply Rt.ld2 | apply Rt.ld3 | apply Rt.ld4 | apply Rt.ld5)); first | assumption | exact Lc.kp (by assumption) (by assumption)) | ((with_reducible apply Rt.ol); first | assumption | exact cell_kp (by assumption) (by assumption)))); exact Rt.some' rfl))))
    refine Rt.ixR hs.sl (by omega) (by omega) fun x' a f b c' C p q' D g v s ex' hv' c0 c1 c2 c3 c4 c5 => ?_
    rw [Int.toNat_natCast, ex] at ex'
    injection ex' with ex'
    subst ex'
    have hl := hv'.last.len
    (repeat (first | (with_reducible (first | refine Rt.fin ?_ | refine Rt.tL ?_ | refine Rt.tI ?_ | refine Rt.tB ?_ | refine Rt.tS ?_ | refine Rt.tP ?_ | refine Rt.tD ?_ | refine Rt.tM ?_ | refine Rt.tC ?_ | refine Rt.tN ?_ | refine Rt.tA ?_ | refine Rt.tG ?_ | refine Rt.tF ?_ | refine Rt.os ?_ | refine Rt.clS ?_ | refine Rt.jmN ?_ | refine Rt.jbN ?_ | refine Rt.jbE ?_)) | ((with_reducible (first | apply Rt.ld0 | apply Rt.ld1 | apply Rt.ld2 | apply Rt.ld3 | apply Rt.ld4 | apply Rt.ld5)); first | assumption | exact Lc.kp (by assumption) (by assumption)) | ((with_reducible apply Rt.ol); first | assumption | exact cell_kp (by assumption) (by assumption)) | ((with_reducible apply Rt.ckR); focus ((repeat (first | (with_reducible (first | refine Rt.fin ?_ | refine Rt.tL ?_ | refine Rt.tI ?_ | refine Rt.tB ?_ | refine Rt.tS ?_ | refine Rt.tP ?_ | refine Rt.tD ?_ | refine Rt.tM ?_ | refine Rt.tC ?_ | refine Rt.tN ?_ | refine Rt.tA ?_ | refine Rt.tG ?_ | refine Rt.tF ?_ | refine Rt.os ?_ | refine Rt.clS ?_ | refine Rt.jmN ?_ | refine Rt.jbN ?_ | refine Rt.jbE ?_)) | ((with_reducible (first | apply Rt.ld0 | apply Rt.ld1 | apply Rt.ld2 | apply Rt.ld3 | apply Rt.ld4 | apply Rt.ld5)); first | assumption | exact Lc.kp (by assumption) (by assumption)) | ((with_reducible apply Rt.ol); first | assumption | exact cell_kp (by assumption) (by assumption)))); exact Rt.some' rfl))))
    refine Rt.cD (fun h => Rt.some' ⟨rfl, .inr ⟨rfl, rfl, x, hmem, .inr (by omega)⟩⟩) fun h2 => ?_
    rw [i64_in _ (by omega), show ((i : Int) + 1) = ((i + 1 : Nat) : Int) by omega]
    refine ih (i + 1) j (by omega) (by omega) fun r hr => ?_
    rw [List.take_add_one, ex] at hr
    simp only [Option.toList_some, List.mem_append, List.mem_singleton] at hr
    exact hr.elim (hg r) fun e => by subst e; omega
theorem Big_spec (hx : EditV w A l c B m d en el es e) (hn : 2 ^ 63 < n) : Rt (butterylaw16_Big n [ev A l c B m d en el es] w) (RB (bigE e) w) := by
  have h1 := hx.add.len
  have h2 := hx.drop.len
  have hmx : l < 2 ^ 63 := by
    have := hx.add.cap; have := hx.add.max
    have hm : maxLen = 2 ^ 63 - 1 := rfl
    omega
  rw [butterylaw16_Big_eq]
  refine Rt.fin (Rt.al fun w1 l1 k1 s1 => ?_)
  refine Rt.jb (Rt.mono (Big_l0 (n := n) (hx.add.kp k1) l1 l 0 n (by omega) (by omega) (by simp)) ?_)
  rintro ⟨ex, vs, w2⟩ ⟨k2, ⟨f1, f2, f3⟩ | ⟨f1, f2, f3⟩⟩
  · dsimp only at f1 f2 k2
    subst f1 f2 k2
    refine .inl ⟨.inr rfl, ?_⟩
    (repeat (first | (with_reducible (first | refine Rt.fin ?_ | refine Rt.tL ?_ | refine Rt.tI ?_ | refine Rt.tB ?_ | refine Rt.tS ?_ | refine Rt.tP ?_ | refine Rt.tD ?_ | refine Rt.tM ?_ | refine Rt.tC ?_ | refine Rt.tN ?_ | refine Rt.tA ?_ | refine Rt.tG ?_ | refine Rt.tF ?_ | refine Rt.os ?_ | refine Rt.clS ?_ | refine Rt.jmN ?_ | refine Rt.jbN ?_ | refine Rt.jbE ?_)) | ((with_reducible (first | apply Rt.ld0 | apply Rt.ld1 | apply Rt.ld2 | apply Rt.ld3 | apply Rt.ld4 | apply Rt.ld5)); first | assumption | exact Lc.kp (by assumption) (by assumption)) | ((with_reducible apply Rt.ol); first | assumption | exact cell_kp (by assumption) (by assumption)) | ((with_reducible apply Rt.ckR); focus ((repeat (first | (with_reducible (first | refine Rt.fin ?_ | refine Rt.tL ?_ | refine Rt.tI ?_ | refine Rt.tB ?_ | refine Rt.tS ?_ | refine Rt.tP ?_ | refine Rt.tD ?_ | refine Rt.tM ?_ | refine Rt.tC ?_ | refine Rt.tN ?_ | refine Rt.tA ?_ | refine Rt.tG ?_ | refine Rt.tF ?_ | refine Rt.os ?_ | refine Rt.clS ?_ | refine Rt.jmN ?_ | refine Rt.jbN ?_ | refine Rt.jbE ?_)) | ((with_reducible (first | apply Rt.ld0 | apply Rt.ld1 | apply Rt.ld2 | apply Rt.ld3 | apply Rt.ld4 | apply Rt.ld5)); first | assumption | exact Lc.kp (by assumption) (by assumption)) | ((with_reducible apply Rt.ol); first | assumption | exact cell_kp (by assumption) (by assumption)))); exact Rt.some' rfl))))
    have no : ¬ ∃ r ∈ e.add, r.first.length > 300 ∨ r.last.length > 300 := fun ⟨r, hr, h⟩ => f3 r hr h
    refine Rt.cD (fun h => Rt.endB (by simp only [true_iff]; unfold bigE; omega) k1) fun h3 => ?_
    (repeat (first | (with_reducible (first | refine Rt.fin ?_ | refine Rt.tL ?_ | refine Rt.tI ?_ | refine Rt.tB ?_ | refine Rt.tS ?_ | refine Rt.tP ?_ | refine Rt.tD ?_ | refine Rt.tM ?_ | refine Rt.tC ?_ | refine Rt.tN ?_ | refine Rt.tA ?_ | refine Rt.tG ?_ | refine Rt.tF ?_ | refine Rt.os ?_ | refine Rt.clS ?_ | refine Rt.jmN ?_ | refine Rt.jbN ?_ | refine Rt.jbE ?_)) | ((with_reducible (first | apply Rt.ld0 | apply Rt.ld1 | apply Rt.ld2 | apply Rt.ld3 | apply Rt.ld4 | apply Rt.ld5)); first | assumption | exact Lc.kp (by assumption) (by assumption)) | ((with_reducible apply Rt.ol); first | assumption | exact cell_kp (by assumption) (by assumption)) | ((with_reducible apply Rt.ckR); focus ((repeat (first | (with_reducible (first | refine Rt.fin ?_ | refine Rt.tL ?_ | refine Rt.tI ?_ | refine Rt.tB ?_ | refine Rt.tS ?_ | refine Rt.tP ?_ | refine Rt.tD ?_ | refine Rt.tM ?_ | refine Rt.tC ?_ | refine Rt.tN ?_ | refine Rt.tA ?_ | refine Rt.tG ?_ | refine Rt.tF ?_ | refine Rt.os ?_ | refine Rt.clS ?_ | refine Rt.jmN ?_ | refine Rt.jbN ?_ | refine Rt.jbE ?_)) | ((with_reducible (first | apply Rt.ld0 | apply Rt.ld1 | apply Rt.ld2 | apply Rt.ld3 | apply Rt.ld4 | apply Rt.ld5)); first | assumption | exact Lc.kp (by assumption) (by assumption)) | ((with_reducible apply Rt.ol); first | assumption | exact cell_kp (by assumption) (by assumption)))); exact Rt.some' rfl))))
    refine Rt.endB ?_ k1
    simp only [decide_eq_true_eq]
    unfold bigE
    constructor
    · intro h; exact .inr (.inr (by omega))
    · rintro (h | h | h)
      · exact absurd h no
      · omega
      · omega
  · dsimp only at f1 f2 k2
    subst f1 f2 k2
    exact .inr ⟨rfl, rfl, true, _, rfl, ⟨fun _ => .inl f3, fun _ => rfl⟩, k1⟩
theorem num_spec (x : Int) : butterylaw16_num n [.int .i64 x] w = some ([.int .i64 x], w) := by rw [butterylaw16_num_eq, fin_ret]
theorem Rt.cEd {z : Option (List Value × World)} {y : Int × EditD} (h : Rt z (REd w0 y)) {f : Option Addr → Nat → Nat → Option Addr → Nat → Nat → Int → Int → Int → Int → World → Option α}
    (hf : ∀ A l c B m d w1, EditV w1 A l c B m d y.2.next y.2.log y.2.seq y.2 → Kp w0 w1 → Rt (f A l c B m d y.2.next y.2.log y.2.seq y.1 w1) Q) :
    Rt (cl z fun vs w => tC vs fun v cs => tA v fun cs1 => tC cs1 fun v1 cs2 => tL v1 fun A l c => tC cs2 fun v2 cs3 => tL v2 fun B m d => tC cs3 fun v3 cs4 => tI .i64 v3 fun p => tC cs4 fun v4 cs5 => tI .i64 v4 fun q => tC cs5 fun v5 cs6 => tI .u64 v5 fun s => tN cs6 (tC cs fun v6 cs7 => tI .i64 v6 fun e => tN cs7 (f A l c B m d p q s e w))) Q := by
  obtain ⟨_, rfl, A, l, c, B, m, d, w1, rfl, o, k1⟩ := h
  (repeat (first | (with_reducible (first | refine Rt.fin ?_ | refine Rt.tL ?_ | refine Rt.tI ?_ | refine Rt.tB ?_ | refine Rt.tS ?_ | refine Rt.tP ?_ | refine Rt.tD ?_ | refine Rt.tM ?_ | refine Rt.tC ?_ | refine Rt.tN ?_ | refine Rt.tA ?_ | refine Rt.tG ?_ | refine Rt.tF ?_ | refine Rt.os ?_ | refine Rt.clS ?_ | refine Rt.jmN ?_ | refine Rt.jbN ?_ | refine Rt.jbE ?_)) | ((with_reducible (first | apply Rt.ld0 | apply Rt.ld1 | apply Rt.ld2 | apply Rt.ld3 | apply Rt.ld4 | apply Rt.ld5)); first | assumption | exact Lc.kp (by assumption) (by assumption)) | ((with_reducible apply Rt.ol); first | assumption | exact cell_kp (by assumption) (by assumption)) | ((with_reducible apply Rt.ckR); focus ((repeat (first | (with_reducible (first | refine Rt.fin ?_ | refine Rt.tL ?_ | refine Rt.tI ?_ | refine Rt.tB ?_ | refine Rt.tS ?_ | refine Rt.tP ?_ | refine Rt.tD ?_ | refine Rt.tM ?_ | refine Rt.tC ?_ | refine Rt.tN ?_ | refine Rt.tA ?_ | refine Rt.tG ?_ | refine Rt.tF ?_ | refine Rt.os ?_ | refine Rt.clS ?_ | refine Rt.jmN ?_ | refine Rt.jbN ?_ | refine Rt.jbE ?_)) | ((with_reducible (first | apply Rt.ld0 | apply Rt.ld1 | apply Rt.ld2 | apply Rt.ld3 | apply Rt.ld4 | apply Rt.ld5)); first | assumption | exact Lc.kp (by assumption) (by assumption)) | ((with_reducible apply Rt.ol); first | assumption | exact cell_kp (by assumption) (by assumption)))); exact Rt.some' rfl))))
  exact hf A l c B m d w1 o k1
theorem all_small {zs : List Int} (hb : ∀ z ∈ zs, (Lit.int .u8 z).wf = true) : (allP editP zs).2.add.length ≤ 100 ∧ (allP editP zs).2.drop.length ≤ 100 := by
  by_cases h : (allP editP zs).1 = 0
  · have h' : allP editP zs = (0, (allP editP zs).2) := by rw [← h]
    have := (allP_can can_edit hb h').2
    exact ⟨this.1, this.2.1⟩
  · have : (allP editP zs).2 = default := by
      unfold allP at h ⊢
      split
      · rfl
      · rename_i h0
        rw [if_neg h0] at h
        split
        · rfl
        · rename_i h1; rw [if_neg h1] at h; exact absurd rfl h
    rw [this]; decide
theorem LReads_spec (hb : Bv .u8 w A l c zs) (hn : 2 ^ 63 < n) : Rt (butterylaw16_EditReads n [.slice A l c] w) (RB True w) := by
  obtain ⟨t, hT⟩ := Low.slV
  have hzl := hb.len
  rw [butterylaw16_EditReads_eq]
  refine Rt.fin (Rt.cBt (alive_spec (by omega)) trivial fun w2 k2 => Rt.cF rfl (Rt.cD (fun h => Rt.endB (by simp) k2) fun g1 => ?_))
  refine Rt.app0 hT (hb.kp k2).sl hb.nil (by omega) fun D f w3 o3 k3 => ?_
  (repeat (first | (with_reducible (first | refine Rt.fin ?_ | refine Rt.tL ?_ | refine Rt.tI ?_ | refine Rt.tB ?_ | refine Rt.tS ?_ | refine Rt.tP ?_ | refine Rt.tD ?_ | refine Rt.tM ?_ | refine Rt.tC ?_ | refine Rt.tN ?_ | refine Rt.tA ?_ | refine Rt.tG ?_ | refine Rt.tF ?_ | refine Rt.os ?_ | refine Rt.clS ?_ | refine Rt.jmN ?_ | refine Rt.jbN ?_ | refine Rt.jbE ?_)) | ((with_reducible (first | apply Rt.ld0 | apply Rt.ld1 | apply Rt.ld2 | apply Rt.ld3 | apply Rt.ld4 | apply Rt.ld5)); first | assumption | exact Lc.kp (by assumption) (by assumption)) | ((with_reducible apply Rt.ol); first | assumption | exact cell_kp (by assumption) (by assumption)) | ((with_reducible apply Rt.ckR); focus ((repeat (first | (with_reducible (first | refine Rt.fin ?_ | refine Rt.tL ?_ | refine Rt.tI ?_ | refine Rt.tB ?_ | refine Rt.tS ?_ | refine Rt.tP ?_ | refine Rt.tD ?_ | refine Rt.tM ?_ | refine Rt.tC ?_ | refine Rt.tN ?_ | refine Rt.tA ?_ | refine Rt.tG ?_ | refine Rt.tF ?_ | refine Rt.os ?_ | refine Rt.clS ?_ | refine Rt.jmN ?_ | refine Rt.jbN ?_ | refine Rt.jbE ?_)) | ((with_reducible (first | apply Rt.ld0 | apply Rt.ld1 | apply Rt.ld2 | apply Rt.ld3 | apply Rt.ld4 | apply Rt.ld5)); first | assumption | exact Lc.kp (by assumption) (by assumption)) | ((with_reducible apply Rt.ol); first | assumption | exact cell_kp (by assumption) (by assumption)))); exact Rt.some' rfl))))
  have k03 := k2.tr k3
  have hsm := all_small hb.rng
  have hcan : ∀ a : EditD, allP editP zs = (0, a) → zs = encE a ∧ rightE a := fun a h => allP_can can_edit hb.rng h
  refine Rt.cEd (Read_spec (o3.bv hb.rng) (by omega) (by omega)) fun A1 l1 c1 B1 m1 d1 w4 v4 k4 => ?_
  refine Rt.al5 fun w5 x5 k5 s5 => ?_
  have k05 := (k03.tr k4).tr k5
  refine Rt.cEd (RRead_spec (hb.kp k05) (by omega) (by omega)) fun A2 l2 c2 B2 m2 d2 w6 v6 k6 => ?_
  refine Rt.al5 fun w7 x7 k7 s7 => ?_
  have k67 := k6.tr k7
  have x5 := (x5.kp k67).kp (Kp.rfl' w7).dr
  have x7 := x7.kp (Kp.rfl' w7).dr
  have k57 := (k5.tr k67).dr
  have v4 := v4.kp k57
  have v6 := v6.kp k7.dr
  have k07 := (k05.tr k67).dr
  generalize hP : allP editP zs = P at *
  obtain ⟨pe, px⟩ := P
  dsimp only at *
  have e1 := v4.add.len
  have e2 := v4.drop.len
  (repeat (first | (with_reducible (first | refine Rt.fin ?_ | refine Rt.tL ?_ | refine Rt.tI ?_ | refine Rt.tB ?_ | refine Rt.tS ?_ | refine Rt.tP ?_ | refine Rt.tD ?_ | refine Rt.tM ?_ | refine Rt.tC ?_ | refine Rt.tN ?_ | refine Rt.tA ?_ | refine Rt.tG ?_ | refine Rt.tF ?_ | refine Rt.os ?_ | refine Rt.clS ?_ | refine Rt.jmN ?_ | refine Rt.jbN ?_ | refine Rt.jbE ?_)) | ((with_reducible (first | apply Rt.ld0 | apply Rt.ld1 | apply Rt.ld2 | apply Rt.ld3 | apply Rt.ld4 | apply Rt.ld5)); first | assumption | exact Lc.kp (by assumption) (by assumption)) | ((with_reducible apply Rt.ol); first | assumption | exact cell_kp (by assumption) (by assumption)) | ((with_reducible apply Rt.ckR); focus ((repeat (first | (with_reducible (first | refine Rt.fin ?_ | refine Rt.tL ?_ | refine Rt.tI ?_ | refine Rt.tB ?_ | refine Rt.tS ?_ | refine Rt.tP ?_ | refine Rt.tD ?_ | refine Rt.tM ?_ | refine Rt.tC ?_ | refine Rt.tN ?_ | refine Rt.tA ?_ | refine Rt.tG ?_ | refine Rt.tF ?_ | refine Rt.os ?_ | refine Rt.clS ?_ | refine Rt.jmN ?_ | refine Rt.jbN ?_ | refine Rt.jbE ?_)) | ((with_reducible (first | apply Rt.ld0 | apply Rt.ld1 | apply Rt.ld2 | apply Rt.ld3 | apply Rt.ld4 | apply Rt.ld5)); first | assumption | exact Lc.kp (by assumption) (by assumption)) | ((with_reducible apply Rt.ol); first | assumption | exact cell_kp (by assumption) (by assumption)))); exact Rt.some' rfl))))
  refine Rt.cBt (SameEdit_spec v4 v6 (by omega) (by omega) (by omega) (by omega)) rfl fun w8 k8 => Rt.cT rfl ?_
  have x5 := x5.kp k8
  rw [num_spec]
  (repeat (first | (with_reducible (first | refine Rt.fin ?_ | refine Rt.tL ?_ | refine Rt.tI ?_ | refine Rt.tB ?_ | refine Rt.tS ?_ | refine Rt.tP ?_ | refine Rt.tD ?_ | refine Rt.tM ?_ | refine Rt.tC ?_ | refine Rt.tN ?_ | refine Rt.tA ?_ | refine Rt.tG ?_ | refine Rt.tF ?_ | refine Rt.os ?_ | refine Rt.clS ?_ | refine Rt.jmN ?_ | refine Rt.jbN ?_ | refine Rt.jbE ?_)) | ((with_reducible (first | apply Rt.ld0 | apply Rt.ld1 | apply Rt.ld2 | apply Rt.ld3 | apply Rt.ld4 | apply Rt.ld5)); first | assumption | exact Lc.kp (by assumption) (by assumption)) | ((with_reducible apply Rt.ol); first | assumption | exact cell_kp (by assumption) (by assumption)) | ((with_reducible apply Rt.ckR); focus ((repeat (first | (with_reducible (first | refine Rt.fin ?_ | refine Rt.tL ?_ | refine Rt.tI ?_ | refine Rt.tB ?_ | refine Rt.tS ?_ | refine Rt.tP ?_ | refine Rt.tD ?_ | refine Rt.tM ?_ | refine Rt.tC ?_ | refine Rt.tN ?_ | refine Rt.tA ?_ | refine Rt.tG ?_ | refine Rt.tF ?_ | refine Rt.os ?_ | refine Rt.clS ?_ | refine Rt.jmN ?_ | refine Rt.jbN ?_ | refine Rt.jbE ?_)) | ((with_reducible (first | apply Rt.ld0 | apply Rt.ld1 | apply Rt.ld2 | apply Rt.ld3 | apply Rt.ld4 | apply Rt.ld5)); first | assumption | exact Lc.kp (by assumption) (by assumption)) | ((with_reducible apply Rt.ol); first | assumption | exact cell_kp (by assumption) (by assumption)))); exact Rt.some' rfl))))
  refine Rt.cT (by simp) ?_
  have k08 := k07.tr k8
  refine Rt.cN (fun h0 => ?_) fun h0 => Rt.endB (by simp) k08
  subst h0
  obtain ⟨h1, h2⟩ := hcan _ rfl
  (repeat (first | (with_reducible (first | refine Rt.fin ?_ | refine Rt.tL ?_ | refine Rt.tI ?_ | refine Rt.tB ?_ | refine Rt.tS ?_ | refine Rt.tP ?_ | refine Rt.tD ?_ | refine Rt.tM ?_ | refine Rt.tC ?_ | refine Rt.tN ?_ | refine Rt.tA ?_ | refine Rt.tG ?_ | refine Rt.tF ?_ | refine Rt.os ?_ | refine Rt.clS ?_ | refine Rt.jmN ?_ | refine Rt.jbN ?_ | refine Rt.jbE ?_)) | ((with_reducible (first | apply Rt.ld0 | apply Rt.ld1 | apply Rt.ld2 | apply Rt.ld3 | apply Rt.ld4 | apply Rt.ld5)); first | assumption | exact Lc.kp (by assumption) (by assumption)) | ((with_reducible apply Rt.ol); first | assumption | exact cell_kp (by assumption) (by assumption)) | ((with_reducible apply Rt.ckR); focus ((repeat (first | (with_reducible (first | refine Rt.fin ?_ | refine Rt.tL ?_ | refine Rt.tI ?_ | refine Rt.tB ?_ | refine Rt.tS ?_ | refine Rt.tP ?_ | refine Rt.tD ?_ | refine Rt.tM ?_ | refine Rt.tC ?_ | refine Rt.tN ?_ | refine Rt.tA ?_ | refine Rt.tG ?_ | refine Rt.tF ?_ | refine Rt.os ?_ | refine Rt.clS ?_ | refine Rt.jmN ?_ | refine Rt.jbN ?_ | refine Rt.jbE ?_)) | ((with_reducible (first | apply Rt.ld0 | apply Rt.ld1 | apply Rt.ld2 | apply Rt.ld3 | apply Rt.ld4 | apply Rt.ld5)); first | assumption | exact Lc.kp (by assumption) (by assumption)) | ((with_reducible apply Rt.ol); first | assumption | exact cell_kp (by assumption) (by assumption)))); exact Rt.some' rfl))))
  refine Rt.cO (Bytes_spec (v4.kp k8) (by omega)) fun E g w9 o9 k9 => ?_
  have hbb : bytesE px = zs := by unfold bytesE; rw [if_pos h2, ← h1]
  rw [hbb] at o9 ⊢
  have k09 := k08.tr k9
  refine Rt.str (o9.bv hb.rng) (Rt.str (hb.kp k09) (Rt.ckR (Rt.str (hb.kp k08) (Rt.some' rfl)) ?_))
  exact Rt.endB (by simp) k09
end
end Go.Proofs.Ytdnbpgakmbamoaa.Ed
