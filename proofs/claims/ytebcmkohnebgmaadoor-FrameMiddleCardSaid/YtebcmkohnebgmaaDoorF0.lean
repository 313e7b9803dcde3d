/- Frames: what the program's functions write. -/
import Derived.Test.YtebcmkohnebgmaaDoorLG
import Derived.Test.YtebcmkohnebgmaaDoorFP
namespace Go.Proofs.YtebcmkohnebgmaaDoor.Fr
open Go Big Go.RowKit Go.IntWalk Crc
set_option linter.unusedVariables false
set_option linter.unusedSimpArgs false
/-- The sum of a piece's kind and bytes, as it is written. -/
def sm (l : List Int) : Int := mask (sum l)
theorem hsm : ∀ l, 0 ≤ sm l ∧ sm l < 2 ^ 32 := fun l => mask_range _
theorem slB : ∃ i, SlT Tryd.prog 22 5 .u8 i := slT (by kernel_rfl)
theorem low4 (x : Int) (h0 : 0 ≤ x) : [IntKind.u8.wrap x, IntKind.u8.wrap (Int.fdiv x (2 ^ 8)), IntKind.u8.wrap (Int.fdiv x (2 ^ 16)), IntKind.u8.wrap (Int.fdiv x (2 ^ 24))] = lowB 4 x := by
  simp only [lowB, u8w, fdivI]
  rw [Int.ediv_ediv_of_nonneg (by decide), Int.ediv_ediv_of_nonneg (by decide)]
  rfl
theorem low2 (x : Int) : [IntKind.u8.wrap x, IntKind.u8.wrap (Int.fdiv x (2 ^ 8))] = lowB 2 x := by
  simp only [lowB, u8w, fdivI]
  rfl
section
variable {α : Type} {Q : α → Prop} {n : Nat} {w w0 : World} {A B C : Option Addr} {l c d base lo co : Nat} {k : Int} {x r out o : List Int}
theorem kind_spec (f e : Bool) : frame_kind n [.bool f, .bool e] w = some ([.int .u8 (kdN f e)], w) := by
  rw [frame_kind_eq]
  cases f <;> cases e <;> rfl
theorem summed_spec (hn : 2 ^ 50 < n) (ht : Sl .u32 w A 256 tab) (hb : Bv .u8 w B l d x) (hl : l ≤ 2 ^ 38) : Rt (frame_summed n [.slice A 256 c, .int .u8 k, .slice B l d] w) (RI .u32 (sm (k :: x)) w) := by
  obtain ⟨i, hT⟩ := slB
  rw [frame_summed_eq]
  refine Rt.fin (Rt.alo [_] 1 rfl rfl (by decide) fun w1 o1 k1 => ?_)
  refine Rt.app hT o1 (hb.kp k1).sl hb.nil (by simp; omega) k1.size fun C e w2 o2 hk2 _ _ => ?_
  (repeat (first | (with_reducible (first | refine Rt.fin ?_ | refine Rt.tL ?_ | refine Rt.tI ?_ | refine Rt.tB ?_ | refine Rt.tS ?_ | refine Rt.tP ?_ | refine Rt.tD ?_ | refine Rt.tM ?_ | refine Rt.tC ?_ | refine Rt.tN ?_ | refine Rt.tA ?_ | refine Rt.tG ?_ | refine Rt.tF ?_ | refine Rt.os ?_ | refine Rt.clS ?_ | refine Rt.jmN ?_ | refine Rt.jbN ?_ | refine Rt.jbE ?_)) | ((with_reducible (first | apply Rt.ld0 | apply Rt.ld1 | apply Rt.ld2 | apply Rt.ld3 | apply Rt.ld4 | apply Rt.ld5)); first | assumption | exact Lc.kp (by assumption) (by assumption)) | ((with_reducible apply Rt.ol); first | assumption | exact cell_kp (by assumption) (by assumption)) | ((with_reducible apply Rt.ckR); focus ((repeat (first | (with_reducible (first | refine Rt.fin ?_ | refine Rt.tL ?_ | refine Rt.tI ?_ | refine Rt.tB ?_ | refine Rt.tS ?_ | refine Rt.tP ?_ | refine Rt.tD ?_ | refine Rt.tM ?_ | refine Rt.tC ?_ | refine Rt.tN ?_ | refine Rt.tA ?_ | refine Rt.tG ?_ | refine Rt.tF ?_ | refine Rt.os ?_ | refine Rt.clS ?_ | refine Rt.jmN ?_ | refine Rt.jbN ?_ | refine Rt.jbE ?_)) | ((with_reducible (first | apply Rt.ld0 | apply Rt.ld1 | apply Rt.ld2 | apply Rt.ld3 | apply Rt.ld4 | apply Rt.ld5)); first | assumption | exact Lc.kp (by assumption) (by assumption)) | ((with_reducible apply Rt.ol); first | assumption | exact cell_kp (by assumption) (by assumption)))); exact Rt.some' rfl))))
  have k2 := hk2 w k1 (Nat.le_refl _)
  refine Rt.cI (Sum_rt hn (ht.kp k2) o2.sl.2 (by simp; omega)) fun w3 k3 => ?_
  rw [Mask_spec]
  (repeat (first | (with_reducible (first | refine Rt.fin ?_ | refine Rt.tL ?_ | refine Rt.tI ?_ | refine Rt.tB ?_ | refine Rt.tS ?_ | refine Rt.tP ?_ | refine Rt.tD ?_ | refine Rt.tM ?_ | refine Rt.tC ?_ | refine Rt.tN ?_ | refine Rt.tA ?_ | refine Rt.tG ?_ | refine Rt.tF ?_ | refine Rt.os ?_ | refine Rt.clS ?_ | refine Rt.jmN ?_ | refine Rt.jbN ?_ | refine Rt.jbE ?_)) | ((with_reducible (first | apply Rt.ld0 | apply Rt.ld1 | apply Rt.ld2 | apply Rt.ld3 | apply Rt.ld4 | apply Rt.ld5)); first | assumption | exact Lc.kp (by assumption) (by assumption)) | ((with_reducible apply Rt.ol); first | assumption | exact cell_kp (by assumption) (by assumption)) | ((with_reducible apply Rt.ckR); focus ((repeat (first | (with_reducible (first | refine Rt.fin ?_ | refine Rt.tL ?_ | refine Rt.tI ?_ | refine Rt.tB ?_ | refine Rt.tS ?_ | refine Rt.tP ?_ | refine Rt.tD ?_ | refine Rt.tM ?_ | refine Rt.tC ?_ | refine Rt.tN ?_ | refine Rt.tA ?_ | refine Rt.tG ?_ | refine Rt.tF ?_ | refine Rt.os ?_ | refine Rt.clS ?_ | refine Rt.jmN ?_ | refine Rt.jbN ?_ | refine Rt.jbE ?_)) | ((with_reducible (first | apply Rt.ld0 | apply Rt.ld1 | apply Rt.ld2 | apply Rt.ld3 | apply Rt.ld4 | apply Rt.ld5)); first | assumption | exact Lc.kp (by assumption) (by assumption)) | ((with_reducible apply Rt.ol); first | assumption | exact cell_kp (by assumption) (by assumption)))); exact Rt.some' rfl))))
  exact Rt.endI rfl (k2.tr k3)
theorem piece_spec (hn : 2 ^ 50 < n) (ht : Sl .u32 w A 256 tab) (hk : Kp w0 w) (hb : Bv .u8 w0 B l d x) (hl : l ≤ 2 ^ 38) (h0 : w0.heap.size ≤ base) (hbs : base ≤ w.heap.size) (ho : Own .u8 5 w base (.slice C o.length co) o) (hol : o.length ≤ 2 ^ 38) :
    Rt (frame_piece n [.slice A 256 c, .slice C o.length co, .int .u8 k, .slice B l d] w) fun r => ∃ D e w', r = ([.slice D (o ++ pc sm k x).length e], w') ∧ Own .u8 5 w' base (.slice D (o ++ pc sm k x).length e) (o ++ pc sm k x) ∧ (∀ w1, Kp w1 w → w1.heap.size ≤ base → Kp w1 w') ∧ w.heap.size ≤ w'.heap.size := by
  obtain ⟨i, hT⟩ := slB
  have hxl := hb.len
  rw [frame_piece_eq]
  refine Rt.fin (Rt.cI (summed_spec hn ht (hb.kp hk) hl) fun w1 k1 => ?_)
  refine Rt.alo [_, _, _, _, _, _, _] 7 rfl rfl (by decide) fun w2 o2 k2 => ?_
  have k12 := k1.tr k2
  refine Rt.app hT (ho.kp k12) o2.sl.2 (fun h => by cases h) (by omega) (Nat.le_trans hbs k12.size) fun D e w3 o3 hk3 _ s3 => ?_
  (repeat (first | (with_reducible (first | refine Rt.fin ?_ | refine Rt.tL ?_ | refine Rt.tI ?_ | refine Rt.tB ?_ | refine Rt.tS ?_ | refine Rt.tP ?_ | refine Rt.tD ?_ | refine Rt.tM ?_ | refine Rt.tC ?_ | refine Rt.tN ?_ | refine Rt.tA ?_ | refine Rt.tG ?_ | refine Rt.tF ?_ | refine Rt.os ?_ | refine Rt.clS ?_ | refine Rt.jmN ?_ | refine Rt.jbN ?_ | refine Rt.jbE ?_)) | ((with_reducible (first | apply Rt.ld0 | apply Rt.ld1 | apply Rt.ld2 | apply Rt.ld3 | apply Rt.ld4 | apply Rt.ld5)); first | assumption | exact Lc.kp (by assumption) (by assumption)) | ((with_reducible apply Rt.ol); first | assumption | exact cell_kp (by assumption) (by assumption)) | ((with_reducible apply Rt.ckR); focus ((repeat (first | (with_reducible (first | refine Rt.fin ?_ | refine Rt.tL ?_ | refine Rt.tI ?_ | refine Rt.tB ?_ | refine Rt.tS ?_ | refine Rt.tP ?_ | refine Rt.tD ?_ | refine Rt.tM ?_ | refine Rt.tC ?_ | refine Rt.tN ?_ | refine Rt.tA ?_ | refine Rt.tG ?_ | refine Rt.tF ?_ | refine Rt.os ?_ | refine Rt.clS ?_ | refine Rt.jmN ?_ | refine Rt.jbN ?_ | refine Rt.jbE ?_)) | ((with_reducible (first | apply Rt.ld0 | apply Rt.ld1 | apply Rt.ld2 | apply Rt.ld3 | apply Rt.ld4 | apply Rt.ld5)); first | assumption | exact Lc.kp (by assumption) (by assumption)) | ((with_reducible apply Rt.ol); first | assumption | exact cell_kp (by assumption) (by assumption)))); exact Rt.some' rfl))))
  have hx3 : Kp w0 w3 := hk3 w0 (hk.tr k12) h0
  refine Rt.app hT o3 (hb.kp hx3).sl hb.nil (by rw [List.length_append]; simp; omega) (by have := k12.size; omega) fun E e' w4 o4 hk4 _ s4 => ?_
  (repeat (first | (with_reducible (first | refine Rt.fin ?_ | refine Rt.tL ?_ | refine Rt.tI ?_ | refine Rt.tB ?_ | refine Rt.tS ?_ | refine Rt.tP ?_ | refine Rt.tD ?_ | refine Rt.tM ?_ | refine Rt.tC ?_ | refine Rt.tN ?_ | refine Rt.tA ?_ | refine Rt.tG ?_ | refine Rt.tF ?_ | refine Rt.os ?_ | refine Rt.clS ?_ | refine Rt.jmN ?_ | refine Rt.jbN ?_ | refine Rt.jbE ?_)) | ((with_reducible (first | apply Rt.ld0 | apply Rt.ld1 | apply Rt.ld2 | apply Rt.ld3 | apply Rt.ld4 | apply Rt.ld5)); first | assumption | exact Lc.kp (by assumption) (by assumption)) | ((with_reducible apply Rt.ol); first | assumption | exact cell_kp (by assumption) (by assumption)) | ((with_reducible apply Rt.ckR); focus ((repeat (first | (with_reducible (first | refine Rt.fin ?_ | refine Rt.tL ?_ | refine Rt.tI ?_ | refine Rt.tB ?_ | refine Rt.tS ?_ | refine Rt.tP ?_ | refine Rt.tD ?_ | refine Rt.tM ?_ | refine Rt.tC ?_ | refine Rt.tN ?_ | refine Rt.tA ?_ | refine Rt.tG ?_ | refine Rt.tF ?_ | refine Rt.os ?_ | refine Rt.clS ?_ | refine Rt.jmN ?_ | refine Rt.jbN ?_ | refine Rt.jbE ?_)) | ((with_reducible (first | apply Rt.ld0 | apply Rt.ld1 | apply Rt.ld2 | apply Rt.ld3 | apply Rt.ld4 | apply Rt.ld5)); first | assumption | exact Lc.kp (by assumption) (by assumption)) | ((with_reducible apply Rt.ol); first | assumption | exact cell_kp (by assumption) (by assumption)))); exact Rt.some' rfl))))
  have he : [IntKind.u8.wrap (sm (k :: x)), IntKind.u8.wrap (Int.fdiv (sm (k :: x)) (2 ^ 8)), IntKind.u8.wrap (Int.fdiv (sm (k :: x)) (2 ^ 16)), IntKind.u8.wrap (Int.fdiv (sm (k :: x)) (2 ^ 24)), IntKind.u8.wrap (l : Int), IntKind.u8.wrap (Int.fdiv (l : Int) (2 ^ 8)), k] ++ x = pc sm k x := by
    unfold pc
    rw [← low4 _ (hsm _).1, hxl, ← low2]
    rfl
  rw [List.append_assoc, he] at o4
  have hl4 := o4.sl.1
  rw [hl4] at o4 ⊢
  exact Rt.some' ⟨rfl, E, e', w4, rfl, o4, fun w1 h h' => hk4 w1 (hk3 w1 (h.tr k12) h') h', by have := k12.size; omega⟩
theorem Put_l0 (hn : 2 ^ 50 < n) (ht : Sl .u32 w0 A 256 tab) {a : Nat} {f : Bool} (h : Pieces sm a f r out) : a ≤ 121 → ∀ (m : Nat) (w : World) (B : Option Addr) (l d : Nat) (C : Option Addr) (co : Nat) (o : List Int), out.length < m → Kp w0 w → Bv .u8 w0 B l d r → base ≤ w.heap.size → w0.heap.size ≤ base →
    Own .u8 5 w base (.slice C o.length co) o → o.length + out.length ≤ 2 ^ 38 →
    Rt (frame_Put.l0 n m B l d (a : Int) A 256 c C o.length co f w) fun r => r.ex = .ret ∧ RO .u8 5 w0 (o ++ out) (r.vals, r.w) := by
  induction h with
  | @last a f r h =>
    intro h121 m w B l d C co o hm hk hb hbs h0 ho hol
    obtain ⟨m, rfl⟩ : ∃ m', m = m' + 1 := ⟨m - 1, by omega⟩
    have hrl := hb.len
    rw [pc_len] at hol
    rw [frame_Put.l0_succ, i64_in (128 - (a : Int)) (by omega), i64_in (128 - (a : Int) - 7) (by omega)]
    have e : (if 128 - (a : Int) - 7 < (l : Int) then 128 - (a : Int) - 7 else (l : Int)) = (l : Int) := by rw [if_neg (by omega)]
    rw [e, beq_self_eq_true, kind_spec]
    (repeat (first | (with_reducible (first | refine Rt.fin ?_ | refine Rt.tL ?_ | refine Rt.tI ?_ | refine Rt.tB ?_ | refine Rt.tS ?_ | refine Rt.tP ?_ | refine Rt.tD ?_ | refine Rt.tM ?_ | refine Rt.tC ?_ | refine Rt.tN ?_ | refine Rt.tA ?_ | refine Rt.tG ?_ | refine Rt.tF ?_ | refine Rt.os ?_ | refine Rt.clS ?_ | refine Rt.jmN ?_ | refine Rt.jbN ?_ | refine Rt.jbE ?_)) | ((with_reducible (first | apply Rt.ld0 | apply Rt.ld1 | apply Rt.ld2 | apply Rt.ld3 | apply Rt.ld4 | apply Rt.ld5)); first | assumption | exact Lc.kp (by assumption) (by assumption)) | ((with_reducible apply Rt.ol); first | assumption | exact cell_kp (by assumption) (by assumption)) | ((with_reducible apply Rt.ckR); focus ((repeat (first | (with_reducible (first | refine Rt.fin ?_ | refine Rt.tL ?_ | refine Rt.tI ?_ | refine Rt.tB ?_ | refine Rt.tS ?_ | refine Rt.tP ?_ | refine Rt.tD ?_ | refine Rt.tM ?_ | refine Rt.tC ?_ | refine Rt.tN ?_ | refine Rt.tA ?_ | refine Rt.tG ?_ | refine Rt.tF ?_ | refine Rt.os ?_ | refine Rt.clS ?_ | refine Rt.jmN ?_ | refine Rt.jbN ?_ | refine Rt.jbE ?_)) | ((with_reducible (first | apply Rt.ld0 | apply Rt.ld1 | apply Rt.ld2 | apply Rt.ld3 | apply Rt.ld4 | apply Rt.ld5)); first | assumption | exact Lc.kp (by assumption) (by assumption)) | ((with_reducible apply Rt.ol); first | assumption | exact cell_kp (by assumption) (by assumption)))); exact Rt.some' rfl))))
    refine Rt.cut hb (by omega) (by omega) (by omega) fun D bD => ?_
    rw [Int.toNat_natCast, List.take_of_length_le (by omega), show Int.toNat 0 = 0 from rfl, List.drop_zero, Nat.sub_zero, Nat.sub_zero] at bD
    refine Rt.call (piece_spec (w := w.drew) hn (ht.kp hk.dr) hk.dr bD (by omega) h0 hbs ho (by omega)) ?_
    rintro vs w1 ⟨E, e', w1', hr, o1, hk1, s1⟩
    cases hr
    (repeat (first | (with_reducible (first | refine Rt.fin ?_ | refine Rt.tL ?_ | refine Rt.tI ?_ | refine Rt.tB ?_ | refine Rt.tS ?_ | refine Rt.tP ?_ | refine Rt.tD ?_ | refine Rt.tM ?_ | refine Rt.tC ?_ | refine Rt.tN ?_ | refine Rt.tA ?_ | refine Rt.tG ?_ | refine Rt.tF ?_ | refine Rt.os ?_ | refine Rt.clS ?_ | refine Rt.jmN ?_ | refine Rt.jbN ?_ | refine Rt.jbE ?_)) | ((with_reducible (first | apply Rt.ld0 | apply Rt.ld1 | apply Rt.ld2 | apply Rt.ld3 | apply Rt.ld4 | apply Rt.ld5)); first | assumption | exact Lc.kp (by assumption) (by assumption)) | ((with_reducible apply Rt.ol); first | assumption | exact cell_kp (by assumption) (by assumption)) | ((with_reducible apply Rt.ckR); focus ((repeat (first | (with_reducible (first | refine Rt.fin ?_ | refine Rt.tL ?_ | refine Rt.tI ?_ | refine Rt.tB ?_ | refine Rt.tS ?_ | refine Rt.tP ?_ | refine Rt.tD ?_ | refine Rt.tM ?_ | refine Rt.tC ?_ | refine Rt.tN ?_ | refine Rt.tA ?_ | refine Rt.tG ?_ | refine Rt.tF ?_ | refine Rt.os ?_ | refine Rt.clS ?_ | refine Rt.jmN ?_ | refine Rt.jbN ?_ | refine Rt.jbE ?_)) | ((with_reducible (first | apply Rt.ld0 | apply Rt.ld1 | apply Rt.ld2 | apply Rt.ld3 | apply Rt.ld4 | apply Rt.ld5)); first | assumption | exact Lc.kp (by assumption) (by assumption)) | ((with_reducible apply Rt.ol); first | assumption | exact cell_kp (by assumption) (by assumption)))); exact Rt.some' rfl))))
    exact Rt.cT rfl (Rt.some' ⟨rfl, E, e', w1, rfl, o1.mono h0, hk1 w0 hk.dr h0⟩)
  | @more a f r out h t ih =>
    intro h121 m w B l d C co o hm hk hb hbs h0 ho hol
    obtain ⟨m, rfl⟩ : ∃ m', m = m' + 1 := ⟨m - 1, by omega⟩
    have hrl := hb.len
    have hx : (r.take (121 - a)).length = 121 - a := by rw [List.length_take]; omega
    rw [List.length_append, pc_len, hx] at hol hm
    have hle := t.len.1
    rw [List.length_drop] at hle
    rw [frame_Put.l0_succ, i64_in (128 - (a : Int)) (by omega), i64_in (128 - (a : Int) - 7) (by omega)]
    have e : (if 128 - (a : Int) - 7 < (l : Int) then 128 - (a : Int) - 7 else (l : Int)) = ((121 - a : Nat) : Int) := by rw [if_pos (by omega)]; omega
    rw [e, show (((121 - a : Nat) : Int) == (l : Int)) = false by rw [beq_eq_false_iff_ne]; omega, kind_spec]
    (repeat (first | (with_reducible (first | refine Rt.fin ?_ | refine Rt.tL ?_ | refine Rt.tI ?_ | refine Rt.tB ?_ | refine Rt.tS ?_ | refine Rt.tP ?_ | refine Rt.tD ?_ | refine Rt.tM ?_ | refine Rt.tC ?_ | refine Rt.tN ?_ | refine Rt.tA ?_ | refine Rt.tG ?_ | refine Rt.tF ?_ | refine Rt.os ?_ | refine Rt.clS ?_ | refine Rt.jmN ?_ | refine Rt.jbN ?_ | refine Rt.jbE ?_)) | ((with_reducible (first | apply Rt.ld0 | apply Rt.ld1 | apply Rt.ld2 | apply Rt.ld3 | apply Rt.ld4 | apply Rt.ld5)); first | assumption | exact Lc.kp (by assumption) (by assumption)) | ((with_reducible apply Rt.ol); first | assumption | exact cell_kp (by assumption) (by assumption)) | ((with_reducible apply Rt.ckR); focus ((repeat (first | (with_reducible (first | refine Rt.fin ?_ | refine Rt.tL ?_ | refine Rt.tI ?_ | refine Rt.tB ?_ | refine Rt.tS ?_ | refine Rt.tP ?_ | refine Rt.tD ?_ | refine Rt.tM ?_ | refine Rt.tC ?_ | refine Rt.tN ?_ | refine Rt.tA ?_ | refine Rt.tG ?_ | refine Rt.tF ?_ | refine Rt.os ?_ | refine Rt.clS ?_ | refine Rt.jmN ?_ | refine Rt.jbN ?_ | refine Rt.jbE ?_)) | ((with_reducible (first | apply Rt.ld0 | apply Rt.ld1 | apply Rt.ld2 | apply Rt.ld3 | apply Rt.ld4 | apply Rt.ld5)); first | assumption | exact Lc.kp (by assumption) (by assumption)) | ((with_reducible apply Rt.ol); first | assumption | exact cell_kp (by assumption) (by assumption)))); exact Rt.some' rfl))))
    refine Rt.cut hb (by omega) (by omega) (by omega) fun D bD => ?_
    rw [Int.toNat_natCast, show Int.toNat 0 = 0 from rfl, List.drop_zero, Nat.sub_zero, Nat.sub_zero] at bD
    refine Rt.call (piece_spec (w := w.drew) hn (ht.kp hk.dr) hk.dr bD (by omega) h0 hbs ho (by omega)) ?_
    rintro vs w1 ⟨E, e', w1', hr, o1, hk1, s1⟩
    cases hr
    have s1 : w.heap.size ≤ w1.heap.size := s1
    (repeat (first | (with_reducible (first | refine Rt.fin ?_ | refine Rt.tL ?_ | refine Rt.tI ?_ | refine Rt.tB ?_ | refine Rt.tS ?_ | refine Rt.tP ?_ | refine Rt.tD ?_ | refine Rt.tM ?_ | refine Rt.tC ?_ | refine Rt.tN ?_ | refine Rt.tA ?_ | refine Rt.tG ?_ | refine Rt.tF ?_ | refine Rt.os ?_ | refine Rt.clS ?_ | refine Rt.jmN ?_ | refine Rt.jbN ?_ | refine Rt.jbE ?_)) | ((with_reducible (first | apply Rt.ld0 | apply Rt.ld1 | apply Rt.ld2 | apply Rt.ld3 | apply Rt.ld4 | apply Rt.ld5)); first | assumption | exact Lc.kp (by assumption) (by assumption)) | ((with_reducible apply Rt.ol); first | assumption | exact cell_kp (by assumption) (by assumption)) | ((with_reducible apply Rt.ckR); focus ((repeat (first | (with_reducible (first | refine Rt.fin ?_ | refine Rt.tL ?_ | refine Rt.tI ?_ | refine Rt.tB ?_ | refine Rt.tS ?_ | refine Rt.tP ?_ | refine Rt.tD ?_ | refine Rt.tM ?_ | refine Rt.tC ?_ | refine Rt.tN ?_ | refine Rt.tA ?_ | refine Rt.tG ?_ | refine Rt.tF ?_ | refine Rt.os ?_ | refine Rt.clS ?_ | refine Rt.jmN ?_ | refine Rt.jbN ?_ | refine Rt.jbE ?_)) | ((with_reducible (first | apply Rt.ld0 | apply Rt.ld1 | apply Rt.ld2 | apply Rt.ld3 | apply Rt.ld4 | apply Rt.ld5)); first | assumption | exact Lc.kp (by assumption) (by assumption)) | ((with_reducible apply Rt.ol); first | assumption | exact cell_kp (by assumption) (by assumption)))); exact Rt.some' rfl))))
    refine Rt.cF rfl (Rt.cut hb (by omega) (by omega) (by omega) fun F bF => ?_)
    rw [Int.toNat_natCast, Int.toNat_natCast, List.take_of_length_le (by omega)] at bF
    have := ih (by omega) m w1 F (l - (121 - a)) (d - (121 - a)) E e' (o ++ pc sm (kdN f false) (r.take (121 - a))) (by omega) (hk1 w0 hk.dr h0) bF (by omega) h0 o1 (by rw [List.length_append, pc_len, hx]; omega)
    rw [List.append_assoc] at this
    exact this
theorem Put_spec {size : Int} (hn : 2 ^ 50 < n) (hb : Bv .u8 w B l d r) (hl : l ≤ 2 ^ 36) (hsz : size < 2 ^ 63) (hp : IsPut sm size.toNat r out) : Rt (frame_Put n [.int .i64 size, .slice B l d] w) (RO .u8 5 w out) := by
  obtain ⟨i, hT⟩ := slB
  obtain ⟨o, h1, rfl⟩ := hp
  have hlen := h1.len
  have hlen2 := hlen.2 (padN_mod _)
  have hrl := hb.len
  rw [frame_Put_eq]
  refine Rt.fin (Rt.call (Table_rt hn) fun vs w1 h => ?_)
  obtain ⟨A, c, w1', e, ot, k1⟩ := h
  injection e with e e'
  subst e e'
  (repeat (first | (with_reducible (first | refine Rt.fin ?_ | refine Rt.tL ?_ | refine Rt.tI ?_ | refine Rt.tB ?_ | refine Rt.tS ?_ | refine Rt.tP ?_ | refine Rt.tD ?_ | refine Rt.tM ?_ | refine Rt.tC ?_ | refine Rt.tN ?_ | refine Rt.tA ?_ | refine Rt.tG ?_ | refine Rt.tF ?_ | refine Rt.os ?_ | refine Rt.clS ?_ | refine Rt.jmN ?_ | refine Rt.jbN ?_ | refine Rt.jbE ?_)) | ((with_reducible (first | apply Rt.ld0 | apply Rt.ld1 | apply Rt.ld2 | apply Rt.ld3 | apply Rt.ld4 | apply Rt.ld5)); first | assumption | exact Lc.kp (by assumption) (by assumption)) | ((with_reducible apply Rt.ol); first | assumption | exact cell_kp (by assumption) (by assumption)) | ((with_reducible apply Rt.ckR); focus ((repeat (first | (with_reducible (first | refine Rt.fin ?_ | refine Rt.tL ?_ | refine Rt.tI ?_ | refine Rt.tB ?_ | refine Rt.tS ?_ | refine Rt.tP ?_ | refine Rt.tD ?_ | refine Rt.tM ?_ | refine Rt.tC ?_ | refine Rt.tN ?_ | refine Rt.tA ?_ | refine Rt.tG ?_ | refine Rt.tF ?_ | refine Rt.os ?_ | refine Rt.clS ?_ | refine Rt.jmN ?_ | refine Rt.jbN ?_ | refine Rt.jbE ?_)) | ((with_reducible (first | apply Rt.ld0 | apply Rt.ld1 | apply Rt.ld2 | apply Rt.ld3 | apply Rt.ld4 | apply Rt.ld5)); first | assumption | exact Lc.kp (by assumption) (by assumption)) | ((with_reducible apply Rt.ol); first | assumption | exact cell_kp (by assumption) (by assumption)))); exact Rt.some' rfl))))
  have ht := ot.sl.2
  have e0 : Int.tmod (if 0 < size then size else 0) 128 = ((size.toNat % 128 : Nat) : Int) := by
    rw [Int.tmod_eq_emod_of_nonneg (by split <;> omega)]
    split <;> omega
  have e1 : IntKind.i64.wrap (128 - ((size.toNat % 128 : Nat) : Int)) = ((128 - size.toNat % 128 : Nat) : Int) := by rw [i64_in _ (by omega)]; omega
  rw [e0, e1]
  refine Rt.jm (Rt.cD (fun h => ?_) fun h => ?_)
  · have hp : padN size.toNat = 128 - size.toNat % 128 := by unfold padN; rw [if_pos (by omega)]
    have ha : (size.toNat + padN size.toNat) % 128 = 0 := by omega
    refine Rt.mk hT (by omega) (by omega) fun w2 o2 k2 => ?_
    rw [Int.toNat_natCast] at o2 ⊢
    (repeat (first | (with_reducible (first | refine Rt.fin ?_ | refine Rt.tL ?_ | refine Rt.tI ?_ | refine Rt.tB ?_ | refine Rt.tS ?_ | refine Rt.tP ?_ | refine Rt.tD ?_ | refine Rt.tM ?_ | refine Rt.tC ?_ | refine Rt.tN ?_ | refine Rt.tA ?_ | refine Rt.tG ?_ | refine Rt.tF ?_ | refine Rt.os ?_ | refine Rt.clS ?_ | refine Rt.jmN ?_ | refine Rt.jbN ?_ | refine Rt.jbE ?_)) | ((with_reducible (first | apply Rt.ld0 | apply Rt.ld1 | apply Rt.ld2 | apply Rt.ld3 | apply Rt.ld4 | apply Rt.ld5)); first | assumption | exact Lc.kp (by assumption) (by assumption)) | ((with_reducible apply Rt.ol); first | assumption | exact cell_kp (by assumption) (by assumption)) | ((with_reducible apply Rt.ckR); focus ((repeat (first | (with_reducible (first | refine Rt.fin ?_ | refine Rt.tL ?_ | refine Rt.tI ?_ | refine Rt.tB ?_ | refine Rt.tS ?_ | refine Rt.tP ?_ | refine Rt.tD ?_ | refine Rt.tM ?_ | refine Rt.tC ?_ | refine Rt.tN ?_ | refine Rt.tA ?_ | refine Rt.tG ?_ | refine Rt.tF ?_ | refine Rt.os ?_ | refine Rt.clS ?_ | refine Rt.jmN ?_ | refine Rt.jbN ?_ | refine Rt.jbE ?_)) | ((with_reducible (first | apply Rt.ld0 | apply Rt.ld1 | apply Rt.ld2 | apply Rt.ld3 | apply Rt.ld4 | apply Rt.ld5)); first | assumption | exact Lc.kp (by assumption) (by assumption)) | ((with_reducible apply Rt.ol); first | assumption | exact cell_kp (by assumption) (by assumption)))); exact Rt.some' rfl))))
    refine Rt.some' ⟨rfl, ?_⟩
    (repeat (first | (with_reducible (first | refine Rt.fin ?_ | refine Rt.tL ?_ | refine Rt.tI ?_ | refine Rt.tB ?_ | refine Rt.tS ?_ | refine Rt.tP ?_ | refine Rt.tD ?_ | refine Rt.tM ?_ | refine Rt.tC ?_ | refine Rt.tN ?_ | refine Rt.tA ?_ | refine Rt.tG ?_ | refine Rt.tF ?_ | refine Rt.os ?_ | refine Rt.clS ?_ | refine Rt.jmN ?_ | refine Rt.jbN ?_ | refine Rt.jbE ?_)) | ((with_reducible (first | apply Rt.ld0 | apply Rt.ld1 | apply Rt.ld2 | apply Rt.ld3 | apply Rt.ld4 | apply Rt.ld5)); first | assumption | exact Lc.kp (by assumption) (by assumption)) | ((with_reducible apply Rt.ol); first | assumption | exact cell_kp (by assumption) (by assumption)) | ((with_reducible apply Rt.ckR); focus ((repeat (first | (with_reducible (first | refine Rt.fin ?_ | refine Rt.tL ?_ | refine Rt.tI ?_ | refine Rt.tB ?_ | refine Rt.tS ?_ | refine Rt.tP ?_ | refine Rt.tD ?_ | refine Rt.tM ?_ | refine Rt.tC ?_ | refine Rt.tN ?_ | refine Rt.tA ?_ | refine Rt.tG ?_ | refine Rt.tF ?_ | refine Rt.os ?_ | refine Rt.clS ?_ | refine Rt.jmN ?_ | refine Rt.jbN ?_ | refine Rt.jbE ?_)) | ((with_reducible (first | apply Rt.ld0 | apply Rt.ld1 | apply Rt.ld2 | apply Rt.ld3 | apply Rt.ld4 | apply Rt.ld5)); first | assumption | exact Lc.kp (by assumption) (by assumption)) | ((with_reducible apply Rt.ol); first | assumption | exact cell_kp (by assumption) (by assumption)))); exact Rt.some' rfl))))
    rw [ha] at h1
    have hl1 : (List.replicate (128 - size.toNat % 128) (0 : Int)).length = 128 - size.toNat % 128 := List.length_replicate
    have o2' : Own .u8 5 w2 w1.heap.size (.slice (some ⟨w1.heap.size, 0, none⟩) (List.replicate (128 - size.toNat % 128) (0 : Int)).length (128 - size.toNat % 128)) (List.replicate (128 - size.toNat % 128) 0) := by rw [hl1]; exact o2
    have := Put_l0 (n := n) (c := c) hn ht h1 (by omega) n w2 B l d (some ⟨w1.heap.size, 0, none⟩) (128 - size.toNat % 128) _ (by omega) k2 (hb.kp k1) k2.size (Nat.le_refl _) o2' (by rw [hl1]; omega)
    rw [hl1] at this
    rw [hp]
    refine Rt.mono this ?_
    rintro ⟨ex, vs, w3⟩ ⟨g1, D, f, w3', g2, g3, g4⟩
    exact ⟨g1, D, f, w3', g2, g3.mono k1.size, k1.tr g4⟩
  · have hp : padN size.toNat = 0 := padN_zero (by omega)
    have ha : (size.toNat + padN size.toNat) % 128 = size.toNat % 128 := by omega
    refine Rt.some' ⟨rfl, ?_⟩
    (repeat (first | (with_reducible (first | refine Rt.fin ?_ | refine Rt.tL ?_ | refine Rt.tI ?_ | refine Rt.tB ?_ | refine Rt.tS ?_ | refine Rt.tP ?_ | refine Rt.tD ?_ | refine Rt.tM ?_ | refine Rt.tC ?_ | refine Rt.tN ?_ | refine Rt.tA ?_ | refine Rt.tG ?_ | refine Rt.tF ?_ | refine Rt.os ?_ | refine Rt.clS ?_ | refine Rt.jmN ?_ | refine Rt.jbN ?_ | refine Rt.jbE ?_)) | ((with_reducible (first | apply Rt.ld0 | apply Rt.ld1 | apply Rt.ld2 | apply Rt.ld3 | apply Rt.ld4 | apply Rt.ld5)); first | assumption | exact Lc.kp (by assumption) (by assumption)) | ((with_reducible apply Rt.ol); first | assumption | exact cell_kp (by assumption) (by assumption)) | ((with_reducible apply Rt.ckR); focus ((repeat (first | (with_reducible (first | refine Rt.fin ?_ | refine Rt.tL ?_ | refine Rt.tI ?_ | refine Rt.tB ?_ | refine Rt.tS ?_ | refine Rt.tP ?_ | refine Rt.tD ?_ | refine Rt.tM ?_ | refine Rt.tC ?_ | refine Rt.tN ?_ | refine Rt.tA ?_ | refine Rt.tG ?_ | refine Rt.tF ?_ | refine Rt.os ?_ | refine Rt.clS ?_ | refine Rt.jmN ?_ | refine Rt.jbN ?_ | refine Rt.jbE ?_)) | ((with_reducible (first | apply Rt.ld0 | apply Rt.ld1 | apply Rt.ld2 | apply Rt.ld3 | apply Rt.ld4 | apply Rt.ld5)); first | assumption | exact Lc.kp (by assumption) (by assumption)) | ((with_reducible apply Rt.ol); first | assumption | exact cell_kp (by assumption) (by assumption)))); exact Rt.some' rfl))))
    rw [ha] at h1
    have := Put_l0 (n := n) (c := c) hn ht h1 (by omega) n w1 B l d none 0 [] (by omega) (Kp.rfl' w1) (hb.kp k1) (Nat.le_refl _) (Nat.le_refl _) (Own.nil w1 _) (by simp; omega)
    rw [hp]
    refine Rt.mono this ?_
    rintro ⟨ex, vs, w3⟩ ⟨g1, D, f, w3', g2, g3, g4⟩
    exact ⟨g1, D, f, w3', g2, g3.mono k1.size, k1.tr g4⟩
end
end Go.Proofs.YtebcmkohnebgmaaDoor.Fr
