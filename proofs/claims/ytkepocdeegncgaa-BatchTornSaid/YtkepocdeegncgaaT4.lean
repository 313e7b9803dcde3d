/- Batches: how they are read. -/
import Derived.Test.YtkepocdeegncgaaT3
namespace Go.Proofs.Ytkepocdeegncgaa.Ba
open Go Big Go.RowKit Go.IntWalk Var Low Par
set_option linter.unusedVariables false
set_option linter.unusedSimpArgs false
instance : Inhabited OpD := ⟨⟨0, [], []⟩⟩
def fieldP (least most : Int) : Pa (List Int) := bindP numP fun n => if n < least ∨ n > most then failP 2 else takeP n.toNat
def opP : Pa OpD := bindP (takeP 1) fun b => if b.getD 0 0 > 1 then failP 2 else bindP (fieldP 1 256) fun key => if b.getD 0 0 = 1 then bindP (fieldP 0 4096) fun v => retP ⟨1, key, v⟩ else retP ⟨b.getD 0 0, key, []⟩
def opsP : Nat → Pa (List OpD)
  | 0 => retP []
  | n + 1 => bindP opP fun o => bindP (opsP n) fun l => retP (o :: l)
open Classical in
noncomputable def batchP : Pa (Int × List OpD) := bindP (takeP 8) fun a => bindP (takeP 4) fun b => if le b < 1 ∨ le b > 100 ∨ ¬numC (le a) (le b).toNat then failP 2 else bindP (opsP (le b).toNat) fun l => retP (le a, l)
/-- A reader: its bytes, its place, its error. -/
abbrev Rd (w : World) (p : Nat) (A : Option Addr) (l c : Nat) (i : Nat) (e : Int) : Prop := Lc w p [.slice A l c, .int .i64 (i : Int), .int .i64 e]
section
variable {α : Type} {Q : α → Prop} {n : Nat} {w w0 : World} {A B C : Option Addr} {l c m d p i : Nat} {k e : Int} {x : OpD} {xs ys : List OpD} {bs zs : List Int}
theorem take_spec (hr : Rd w p A l c i e) (hb : Bv .u8 w0 A l c zs) (hi : i ≤ l) (hm : m ≤ 2 ^ 40) (hl : l ≤ 2 ^ 40) : Rt (batch_reader_take n [.pointer (some ⟨p, 0, none⟩), .int .i64 (m : Int)] w) fun r => ∃ B m' c' w' i' e', r = ([.slice B m' c'], w') ∧ Rd w' p A l c i' e' ∧ i' ≤ l ∧ Gx (fun k => k = p) w w' ∧ Bv .u8 w0 B m' c' (if e = 0 then (takeP m zs i).2.1 else []) ∧
    (e ≠ 0 → e' = e) ∧ (e = 0 → e' = (takeP m zs i).1 ∧ (e' = 0 → i' = (takeP m zs i).2.2)) := by
  have hzl := hb.len
  rw [batch_reader_take_eq]
  refine Rt.fin (Rt.jm (Rt.mono (Q' := fun r => r.ex = .norm ∧ r.vals = [.pointer (some ⟨p, 0, none⟩), .int .i64 (m : Int)] ∧ Gx (fun k => k = p) w r.w ∧ Rd r.w p A l c i (if e = 0 ∧ l < i + m then 4 else e)) ?_ ?_))
  · (repeat (first | (with_reducible refine Rt.fin ?_) | (with_reducible refine Rt.tL ?_) | (with_reducible refine Rt.tI ?_) | (with_reducible refine Rt.tB ?_) | (with_reducible refine Rt.tS ?_) | (with_reducible refine Rt.tP ?_) | (with_reducible refine Rt.tD ?_) | (with_reducible refine Rt.tM ?_) | (with_reducible refine Rt.tC ?_) | (with_reducible refine Rt.tN ?_) | (with_reducible refine Rt.tA ?_) | (with_reducible refine Rt.tG ?_) | (with_reducible refine Rt.tF ?_) | (with_reducible refine Rt.os ?_) | (with_reducible refine Rt.clS ?_) | (with_reducible refine Rt.jmN ?_) | (with_reducible refine Rt.jbN ?_) | (with_reducible refine Rt.jbE ?_) | ((with_reducible apply Rt.ld0); first | assumption | exact Lc.kp (by assumption) (by assumption)) | ((with_reducible apply Rt.ld1); first | assumption | exact Lc.kp (by assumption) (by assumption)) | ((with_reducible apply Rt.ld2); first | assumption | exact Lc.kp (by assumption) (by assumption)) | ((with_reducible apply Rt.ld3); first | assumption | exact Lc.kp (by assumption) (by assumption)) | ((with_reducible apply Rt.ld4); first | assumption | exact Lc.kp (by assumption) (by assumption)) | ((with_reducible apply Rt.ol); first | assumption | exact cell_kp (by assumption) (by assumption)) | ((with_reducible apply Rt.ckR); focus ((repeat (first | (with_reducible refine Rt.fin ?_) | (with_reducible refine Rt.tL ?_) | (with_reducible refine Rt.tI ?_) | (with_reducible refine Rt.tB ?_) | (with_reducible refine Rt.tS ?_) | (with_reducible refine Rt.tP ?_) | (with_reducible refine Rt.tD ?_) | (with_reducible refine Rt.tM ?_) | (with_reducible refine Rt.tC ?_) | (with_reducible refine Rt.tN ?_) | (with_reducible refine Rt.tA ?_) | (with_reducible refine Rt.tG ?_) | (with_reducible refine Rt.tF ?_) | (with_reducible refine Rt.os ?_) | (with_reducible refine Rt.clS ?_) | (with_reducible refine Rt.jmN ?_) | (with_reducible refine Rt.jbN ?_) | (with_reducible refine Rt.jbE ?_) | ((with_reducible apply Rt.ld0); first | assumption | exact Lc.kp (by assumption) (by assumption)) | ((with_reducible apply Rt.ld1); first | assumption | exact Lc.kp (by assumption) (by assumption)) | ((with_reducible apply Rt.ld2); first | assumption | exact Lc.kp (by assumption) (by assumption)) | ((with_reducible apply Rt.ld3); first | assumption | exact Lc.kp (by assumption) (by assumption)) | ((with_reducible apply Rt.ld4); first | assumption | exact Lc.kp (by assumption) (by assumption)) | ((with_reducible apply Rt.ol); first | assumption | exact cell_kp (by assumption) (by assumption)))); exact Rt.some' rfl))))
    refine Rt.cQ (fun he => ?_) fun he => ?_
    · (repeat (first | (with_reducible refine Rt.fin ?_) | (with_reducible refine Rt.tL ?_) | (with_reducible refine Rt.tI ?_) | (with_reducible refine Rt.tB ?_) | (with_reducible refine Rt.tS ?_) | (with_reducible refine Rt.tP ?_) | (with_reducible refine Rt.tD ?_) | (with_reducible refine Rt.tM ?_) | (with_reducible refine Rt.tC ?_) | (with_reducible refine Rt.tN ?_) | (with_reducible refine Rt.tA ?_) | (with_reducible refine Rt.tG ?_) | (with_reducible refine Rt.tF ?_) | (with_reducible refine Rt.os ?_) | (with_reducible refine Rt.clS ?_) | (with_reducible refine Rt.jmN ?_) | (with_reducible refine Rt.jbN ?_) | (with_reducible refine Rt.jbE ?_) | ((with_reducible apply Rt.ld0); first | assumption | exact Lc.kp (by assumption) (by assumption)) | ((with_reducible apply Rt.ld1); first | assumption | exact Lc.kp (by assumption) (by assumption)) | ((with_reducible apply Rt.ld2); first | assumption | exact Lc.kp (by assumption) (by assumption)) | ((with_reducible apply Rt.ld3); first | assumption | exact Lc.kp (by assumption) (by assumption)) | ((with_reducible apply Rt.ld4); first | assumption | exact Lc.kp (by assumption) (by assumption)) | ((with_reducible apply Rt.ol); first | assumption | exact cell_kp (by assumption) (by assumption)) | ((with_reducible apply Rt.ckR); focus ((repeat (first | (with_reducible refine Rt.fin ?_) | (with_reducible refine Rt.tL ?_) | (with_reducible refine Rt.tI ?_) | (with_reducible refine Rt.tB ?_) | (with_reducible refine Rt.tS ?_) | (with_reducible refine Rt.tP ?_) | (with_reducible refine Rt.tD ?_) | (with_reducible refine Rt.tM ?_) | (with_reducible refine Rt.tC ?_) | (with_reducible refine Rt.tN ?_) | (with_reducible refine Rt.tA ?_) | (with_reducible refine Rt.tG ?_) | (with_reducible refine Rt.tF ?_) | (with_reducible refine Rt.os ?_) | (with_reducible refine Rt.clS ?_) | (with_reducible refine Rt.jmN ?_) | (with_reducible refine Rt.jbN ?_) | (with_reducible refine Rt.jbE ?_) | ((with_reducible apply Rt.ld0); first | assumption | exact Lc.kp (by assumption) (by assumption)) | ((with_reducible apply Rt.ld1); first | assumption | exact Lc.kp (by assumption) (by assumption)) | ((with_reducible apply Rt.ld2); first | assumption | exact Lc.kp (by assumption) (by assumption)) | ((with_reducible apply Rt.ld3); first | assumption | exact Lc.kp (by assumption) (by assumption)) | ((with_reducible apply Rt.ld4); first | assumption | exact Lc.kp (by assumption) (by assumption)) | ((with_reducible apply Rt.ol); first | assumption | exact cell_kp (by assumption) (by assumption)))); exact Rt.some' rfl))))
      rw [i64_in _ (by omega)]
      refine Rt.cD (fun h => ?_) fun h => ?_
      · (repeat (first | (with_reducible refine Rt.fin ?_) | (with_reducible refine Rt.tL ?_) | (with_reducible refine Rt.tI ?_) | (with_reducible refine Rt.tB ?_) | (with_reducible refine Rt.tS ?_) | (with_reducible refine Rt.tP ?_) | (with_reducible refine Rt.tD ?_) | (with_reducible refine Rt.tM ?_) | (with_reducible refine Rt.tC ?_) | (with_reducible refine Rt.tN ?_) | (with_reducible refine Rt.tA ?_) | (with_reducible refine Rt.tG ?_) | (with_reducible refine Rt.tF ?_) | (with_reducible refine Rt.os ?_) | (with_reducible refine Rt.clS ?_) | (with_reducible refine Rt.jmN ?_) | (with_reducible refine Rt.jbN ?_) | (with_reducible refine Rt.jbE ?_) | ((with_reducible apply Rt.ld0); first | assumption | exact Lc.kp (by assumption) (by assumption)) | ((with_reducible apply Rt.ld1); first | assumption | exact Lc.kp (by assumption) (by assumption)) | ((with_reducible apply Rt.ld2); first | assumption | exact Lc.kp (by assumption) (by assumption)) | ((with_reducible apply Rt.ld3); first | assumption | exact Lc.kp (by assumption) (by assumption)) | ((with_reducible apply Rt.ld4); first | assumption | exact Lc.kp (by assumption) (by assumption)) | ((with_reducible apply Rt.ol); first | assumption | exact cell_kp (by assumption) (by assumption)) | ((with_reducible apply Rt.ckR); focus ((repeat (first | (with_reducible refine Rt.fin ?_) | (with_reducible refine Rt.tL ?_) | (with_reducible refine Rt.tI ?_) | (with_reducible refine Rt.tB ?_) | (with_reducible refine Rt.tS ?_) | (with_reducible refine Rt.tP ?_) | (with_reducible refine Rt.tD ?_) | (with_reducible refine Rt.tM ?_) | (with_reducible refine Rt.tC ?_) | (with_reducible refine Rt.tN ?_) | (with_reducible refine Rt.tA ?_) | (with_reducible refine Rt.tG ?_) | (with_reducible refine Rt.tF ?_) | (with_reducible refine Rt.os ?_) | (with_reducible refine Rt.clS ?_) | (with_reducible refine Rt.jmN ?_) | (with_reducible refine Rt.jbN ?_) | (with_reducible refine Rt.jbE ?_) | ((with_reducible apply Rt.ld0); first | assumption | exact Lc.kp (by assumption) (by assumption)) | ((with_reducible apply Rt.ld1); first | assumption | exact Lc.kp (by assumption) (by assumption)) | ((with_reducible apply Rt.ld2); first | assumption | exact Lc.kp (by assumption) (by assumption)) | ((with_reducible apply Rt.ld3); first | assumption | exact Lc.kp (by assumption) (by assumption)) | ((with_reducible apply Rt.ld4); first | assumption | exact Lc.kp (by assumption) (by assumption)) | ((with_reducible apply Rt.ol); first | assumption | exact cell_kp (by assumption) (by assumption)))); exact Rt.some' rfl))))
        refine Rt.st2 (w := w.drew) hr fun w1 l1 g1 => Rt.some' ⟨rfl, rfl, (Gx.rfl' _ w).dr.tr g1, ?_⟩
        rw [if_pos ⟨he, by omega⟩]; exact l1
      · exact Rt.some' ⟨rfl, rfl, (Gx.rfl' _ w).dr, by rw [if_neg (by omega)]; exact hr⟩
    · exact Rt.some' ⟨rfl, rfl, (Gx.rfl' _ w).dr, by rw [if_neg (by omega)]; exact hr⟩
  · rintro ⟨ex, vs, w1⟩ ⟨h1, h2, h3, h4⟩
    dsimp only at h1 h2 h3 h4
    subst h1 h2
    refine ⟨rfl, ?_⟩
    dsimp only
    generalize he' : (if e = 0 ∧ l < i + m then 4 else e) = e' at h4
    (repeat (first | (with_reducible refine Rt.fin ?_) | (with_reducible refine Rt.tL ?_) | (with_reducible refine Rt.tI ?_) | (with_reducible refine Rt.tB ?_) | (with_reducible refine Rt.tS ?_) | (with_reducible refine Rt.tP ?_) | (with_reducible refine Rt.tD ?_) | (with_reducible refine Rt.tM ?_) | (with_reducible refine Rt.tC ?_) | (with_reducible refine Rt.tN ?_) | (with_reducible refine Rt.tA ?_) | (with_reducible refine Rt.tG ?_) | (with_reducible refine Rt.tF ?_) | (with_reducible refine Rt.os ?_) | (with_reducible refine Rt.clS ?_) | (with_reducible refine Rt.jmN ?_) | (with_reducible refine Rt.jbN ?_) | (with_reducible refine Rt.jbE ?_) | ((with_reducible apply Rt.ld0); first | assumption | exact Lc.kp (by assumption) (by assumption)) | ((with_reducible apply Rt.ld1); first | assumption | exact Lc.kp (by assumption) (by assumption)) | ((with_reducible apply Rt.ld2); first | assumption | exact Lc.kp (by assumption) (by assumption)) | ((with_reducible apply Rt.ld3); first | assumption | exact Lc.kp (by assumption) (by assumption)) | ((with_reducible apply Rt.ld4); first | assumption | exact Lc.kp (by assumption) (by assumption)) | ((with_reducible apply Rt.ol); first | assumption | exact cell_kp (by assumption) (by assumption)) | ((with_reducible apply Rt.ckR); focus ((repeat (first | (with_reducible refine Rt.fin ?_) | (with_reducible refine Rt.tL ?_) | (with_reducible refine Rt.tI ?_) | (with_reducible refine Rt.tB ?_) | (with_reducible refine Rt.tS ?_) | (with_reducible refine Rt.tP ?_) | (with_reducible refine Rt.tD ?_) | (with_reducible refine Rt.tM ?_) | (with_reducible refine Rt.tC ?_) | (with_reducible refine Rt.tN ?_) | (with_reducible refine Rt.tA ?_) | (with_reducible refine Rt.tG ?_) | (with_reducible refine Rt.tF ?_) | (with_reducible refine Rt.os ?_) | (with_reducible refine Rt.clS ?_) | (with_reducible refine Rt.jmN ?_) | (with_reducible refine Rt.jbN ?_) | (with_reducible refine Rt.jbE ?_) | ((with_reducible apply Rt.ld0); first | assumption | exact Lc.kp (by assumption) (by assumption)) | ((with_reducible apply Rt.ld1); first | assumption | exact Lc.kp (by assumption) (by assumption)) | ((with_reducible apply Rt.ld2); first | assumption | exact Lc.kp (by assumption) (by assumption)) | ((with_reducible apply Rt.ld3); first | assumption | exact Lc.kp (by assumption) (by assumption)) | ((with_reducible apply Rt.ld4); first | assumption | exact Lc.kp (by assumption) (by assumption)) | ((with_reducible apply Rt.ol); first | assumption | exact cell_kp (by assumption) (by assumption)))); exact Rt.some' rfl))))
    refine Rt.cN (fun h0 => ?_) fun h0 => ?_
    · have he : e = 0 := by
        by_cases h : e = 0 ∧ l < i + m
        · rw [if_pos h] at he'; omega
        · rw [if_neg h] at he'; omega
      have hlt : ¬ l < i + m := fun h => by rw [if_pos ⟨he, h⟩] at he'; omega
      subst he
      (repeat (first | (with_reducible refine Rt.fin ?_) | (with_reducible refine Rt.tL ?_) | (with_reducible refine Rt.tI ?_) | (with_reducible refine Rt.tB ?_) | (with_reducible refine Rt.tS ?_) | (with_reducible refine Rt.tP ?_) | (with_reducible refine Rt.tD ?_) | (with_reducible refine Rt.tM ?_) | (with_reducible refine Rt.tC ?_) | (with_reducible refine Rt.tN ?_) | (with_reducible refine Rt.tA ?_) | (with_reducible refine Rt.tG ?_) | (with_reducible refine Rt.tF ?_) | (with_reducible refine Rt.os ?_) | (with_reducible refine Rt.clS ?_) | (with_reducible refine Rt.jmN ?_) | (with_reducible refine Rt.jbN ?_) | (with_reducible refine Rt.jbE ?_) | ((with_reducible apply Rt.ld0); first | assumption | exact Lc.kp (by assumption) (by assumption)) | ((with_reducible apply Rt.ld1); first | assumption | exact Lc.kp (by assumption) (by assumption)) | ((with_reducible apply Rt.ld2); first | assumption | exact Lc.kp (by assumption) (by assumption)) | ((with_reducible apply Rt.ld3); first | assumption | exact Lc.kp (by assumption) (by assumption)) | ((with_reducible apply Rt.ld4); first | assumption | exact Lc.kp (by assumption) (by assumption)) | ((with_reducible apply Rt.ol); first | assumption | exact cell_kp (by assumption) (by assumption)) | ((with_reducible apply Rt.ckR); focus ((repeat (first | (with_reducible refine Rt.fin ?_) | (with_reducible refine Rt.tL ?_) | (with_reducible refine Rt.tI ?_) | (with_reducible refine Rt.tB ?_) | (with_reducible refine Rt.tS ?_) | (with_reducible refine Rt.tP ?_) | (with_reducible refine Rt.tD ?_) | (with_reducible refine Rt.tM ?_) | (with_reducible refine Rt.tC ?_) | (with_reducible refine Rt.tN ?_) | (with_reducible refine Rt.tA ?_) | (with_reducible refine Rt.tG ?_) | (with_reducible refine Rt.tF ?_) | (with_reducible refine Rt.os ?_) | (with_reducible refine Rt.clS ?_) | (with_reducible refine Rt.jmN ?_) | (with_reducible refine Rt.jbN ?_) | (with_reducible refine Rt.jbE ?_) | ((with_reducible apply Rt.ld0); first | assumption | exact Lc.kp (by assumption) (by assumption)) | ((with_reducible apply Rt.ld1); first | assumption | exact Lc.kp (by assumption) (by assumption)) | ((with_reducible apply Rt.ld2); first | assumption | exact Lc.kp (by assumption) (by assumption)) | ((with_reducible apply Rt.ld3); first | assumption | exact Lc.kp (by assumption) (by assumption)) | ((with_reducible apply Rt.ld4); first | assumption | exact Lc.kp (by assumption) (by assumption)) | ((with_reducible apply Rt.ol); first | assumption | exact cell_kp (by assumption) (by assumption)))); exact Rt.some' rfl))))
      rw [i64_in _ (by omega)]
      refine Rt.st1 h4 fun w2 l2 g2 => ?_
      have l2' : Lc w2.drew p [.slice A l c, .int .i64 ((i : Int) + m), .int .i64 e'] := l2
      (repeat (first | (with_reducible refine Rt.fin ?_) | (with_reducible refine Rt.tL ?_) | (with_reducible refine Rt.tI ?_) | (with_reducible refine Rt.tB ?_) | (with_reducible refine Rt.tS ?_) | (with_reducible refine Rt.tP ?_) | (with_reducible refine Rt.tD ?_) | (with_reducible refine Rt.tM ?_) | (with_reducible refine Rt.tC ?_) | (with_reducible refine Rt.tN ?_) | (with_reducible refine Rt.tA ?_) | (with_reducible refine Rt.tG ?_) | (with_reducible refine Rt.tF ?_) | (with_reducible refine Rt.os ?_) | (with_reducible refine Rt.clS ?_) | (with_reducible refine Rt.jmN ?_) | (with_reducible refine Rt.jbN ?_) | (with_reducible refine Rt.jbE ?_) | ((with_reducible apply Rt.ld0); first | assumption | exact Lc.kp (by assumption) (by assumption)) | ((with_reducible apply Rt.ld1); first | assumption | exact Lc.kp (by assumption) (by assumption)) | ((with_reducible apply Rt.ld2); first | assumption | exact Lc.kp (by assumption) (by assumption)) | ((with_reducible apply Rt.ld3); first | assumption | exact Lc.kp (by assumption) (by assumption)) | ((with_reducible apply Rt.ld4); first | assumption | exact Lc.kp (by assumption) (by assumption)) | ((with_reducible apply Rt.ol); first | assumption | exact cell_kp (by assumption) (by assumption)) | ((with_reducible apply Rt.ckR); focus ((repeat (first | (with_reducible refine Rt.fin ?_) | (with_reducible refine Rt.tL ?_) | (with_reducible refine Rt.tI ?_) | (with_reducible refine Rt.tB ?_) | (with_reducible refine Rt.tS ?_) | (with_reducible refine Rt.tP ?_) | (with_reducible refine Rt.tD ?_) | (with_reducible refine Rt.tM ?_) | (with_reducible refine Rt.tC ?_) | (with_reducible refine Rt.tN ?_) | (with_reducible refine Rt.tA ?_) | (with_reducible refine Rt.tG ?_) | (with_reducible refine Rt.tF ?_) | (with_reducible refine Rt.os ?_) | (with_reducible refine Rt.clS ?_) | (with_reducible refine Rt.jmN ?_) | (with_reducible refine Rt.jbN ?_) | (with_reducible refine Rt.jbE ?_) | ((with_reducible apply Rt.ld0); first | assumption | exact Lc.kp (by assumption) (by assumption)) | ((with_reducible apply Rt.ld1); first | assumption | exact Lc.kp (by assumption) (by assumption)) | ((with_reducible apply Rt.ld2); first | assumption | exact Lc.kp (by assumption) (by assumption)) | ((with_reducible apply Rt.ld3); first | assumption | exact Lc.kp (by assumption) (by assumption)) | ((with_reducible apply Rt.ld4); first | assumption | exact Lc.kp (by assumption) (by assumption)) | ((with_reducible apply Rt.ol); first | assumption | exact cell_kp (by assumption) (by assumption)))); exact Rt.some' rfl))))
      rw [i64_in ((i : Int) + m - m) (by omega)]
      refine Rt.cut hb (by omega) (by omega) (by omega) fun B hB => ?_
      have e1 : ((i : Int) + m).toNat - ((i : Int) + m - m).toNat = m := by omega
      have e2 : (zs.take ((i : Int) + m).toNat).drop ((i : Int) + m - m).toNat = slc zs i m := by
        rw [show ((i : Int) + m).toNat = i + m by omega, show ((i : Int) + m - m).toNat = i by omega, List.drop_take]; simp [slc]
      have et : takeP m zs i = (0, slc zs i m, i + m) := by unfold takeP; rw [if_neg (by omega)]
      rw [e1, e2] at hB
      rw [e1]
      refine Rt.some' ⟨rfl, B, m, _, _, i + m, e', rfl, ?_, by omega, (h3.tr g2).dr, by rw [if_pos rfl, et]; exact hB, fun h => absurd rfl h, fun _ => ?_⟩
      · have : Rd w2.drew p A l c (i + m) e' := by
          show Lc w2.drew p [.slice A l c, .int .i64 ((i + m : Nat) : Int), .int .i64 e']
          rw [show ((i + m : Nat) : Int) = (i : Int) + m by omega]; exact l2'
        exact this
      · rw [et]; exact ⟨h0, fun _ => rfl⟩
    · refine Rt.some' ⟨rfl, none, 0, 0, w1, i, e', rfl, h4, hi, h3, ?_, ?_, ?_⟩
      · by_cases h : e = 0
        · subst h
          have hlt : l < i + m := by
            by_cases h : l < i + m
            · exact h
            · rw [if_neg (by omega)] at he'; omega
          rw [if_pos rfl]
          unfold takeP
          rw [if_pos (by omega)]; exact nilB _
        · rw [if_neg h]; exact nilB _
      · intro h; rw [if_neg (by omega)] at he'; exact he'.symm
      · intro h
        subst h
        by_cases h : l < i + m
        · rw [if_pos ⟨rfl, h⟩] at he'
          unfold takeP
          rw [if_pos (by omega)]
          exact ⟨he'.symm, fun h => by omega⟩
        · rw [if_neg (by omega)] at he'; omega
theorem le_snoc : ∀ {zs : List Int} {i : Nat}, i < zs.length → le (zs.take (i + 1)) = le (zs.take i) + zs.getD i 0 * 256 ^ i
  | [], i, h => by simp at h
  | z :: zs, 0, h => by simp [le]
  | z :: zs, i + 1, h => by
    rw [List.take_succ_cons, List.take_succ_cons, le, le, le_snoc (by simpa using h), Int.pow_succ]
    simp only [List.getD_cons_succ]
    rw [Int.mul_add, Int.add_assoc, ← Int.mul_assoc, ← Int.mul_assoc, Int.mul_comm 256, Int.mul_assoc, Int.mul_assoc, Int.mul_comm 256, Int.mul_assoc]
theorem number_l0 (hb : Bv .u8 w B m d bs) (hm : m ≤ 8) : ∀ (q i j : Nat), i + q = m → q < j → Rt (batch_reader_number.l0 n j (le (bs.take i)) B m d (m : Int) (i : Int) w) fun r => r = ⟨.exit 0, [.int .u64 (le bs)], w⟩ := by
  have hl := hb.len
  intro q
  induction q with
  | zero =>
    intro i j hi hj
    obtain ⟨j, rfl⟩ : ∃ j', j = j' + 1 := ⟨j - 1, by omega⟩
    rw [batch_reader_number.l0_succ]
    exact Rt.cDF (by omega) (Rt.some' (by rw [List.take_of_length_le (by omega)]))
  | succ q ih =>
    intro i j hi hj
    obtain ⟨j, rfl⟩ : ∃ j', j = j' + 1 := ⟨j - 1, by omega⟩
    rw [batch_reader_number.l0_succ]
    refine Rt.cDT (by omega) (Rt.ix hb.sl (by omega) (by omega) ?_)
    rw [i64_in (8 * (i : Int)) (by omega), Int.toNat_natCast]
    refine Rt.iF (by omega) ?_
    have hx := byte_at hb.rng (i := i) (by omega)
    have hle := le_nonneg (xs := bs.take i) fun z hz => hb.rng z (List.mem_of_mem_take hz)
    have hli : (bs.take i).length = i := by simp; omega
    rw [hli] at hle
    have e1 : min (Int.toNat (8 * (i : Int))) 64 = 8 * i := by omega
    have e2 : (2 : Int) ^ (8 * i) = 256 ^ i := by rw [Int.pow_mul]; rfl
    have hp : ∀ a : Nat, a < 8 → (256 : Int) ^ a * 256 ≤ 2 ^ 64 := by decide
    have hp := hp i (by omega)
    have hp0 : (0 : Int) < 256 ^ i := Int.pow_pos (by decide)
    have hm1 : bs.getD i 0 * 256 ^ i ≤ 255 * 256 ^ i := Int.mul_le_mul_of_nonneg_right (by omega) (by omega)
    have hm0 : 0 ≤ bs.getD i 0 * 256 ^ i := Int.mul_nonneg hx.1 (by omega)
    have ho := (orI (x := le (bs.take i)) (y := bs.getD i 0) (8 * i) hle.1 (by rw [e2]; exact hle.2) hx.1 (by rw [e2]; omega)).1
    rw [e2] at ho
    rw [e1, e2, u64_in (bs.getD i 0) (by omega), u64_in (bs.getD i 0 * 256 ^ i) (by omega), ho, ← le_snoc (by omega), i64_in _ (by omega), show ((i : Int) + 1) = ((i + 1 : Nat) : Int) by omega]
    exact ih (i + 1) j (by omega) (by omega)
theorem number_spec (hr : Rd w p A l c i e) (hk : Gx (fun k => k = p) w0 w) (hp : w0.heap.size ≤ p) (hb : Bv .u8 w0 A l c zs) (hi : i ≤ l) (hm : m ≤ 8) (hl : l ≤ 2 ^ 38) (hn : 20 < n) : Rt (batch_reader_number n [.pointer (some ⟨p, 0, none⟩), .int .i64 (m : Int)] w) fun r => ∃ w' i' e', r = ([.int .u64 (le (if e = 0 then (takeP m zs i).2.1 else []))], w') ∧ Rd w' p A l c i' e' ∧ i' ≤ l ∧ Gx (fun k => k = p) w w' ∧
    (e ≠ 0 → e' = e) ∧ (e = 0 → e' = (takeP m zs i).1 ∧ (e' = 0 → i' = (takeP m zs i).2.2)) := by
  rw [batch_reader_number_eq]
  refine Rt.fin (Rt.call (take_spec hr hb hi (by omega) (by omega)) ?_)
  rintro vs w1 ⟨B, m', c', w1', i', e', hr1, h1, h2, h3, h4, h5, h6⟩
  cases hr1
  have hb1 := h4.kp ((hk.tr h3).kp fun j hj => by omega)
  have hml : m' ≤ 8 := by
    have := hb1.len
    by_cases he : e = 0
    · rw [if_pos he] at this
      unfold takeP at this
      split at this <;> simp [slc] at this <;> omega
    · rw [if_neg he] at this; simp at this; omega
  (repeat (first | (with_reducible refine Rt.fin ?_) | (with_reducible refine Rt.tL ?_) | (with_reducible refine Rt.tI ?_) | (with_reducible refine Rt.tB ?_) | (with_reducible refine Rt.tS ?_) | (with_reducible refine Rt.tP ?_) | (with_reducible refine Rt.tD ?_) | (with_reducible refine Rt.tM ?_) | (with_reducible refine Rt.tC ?_) | (with_reducible refine Rt.tN ?_) | (with_reducible refine Rt.tA ?_) | (with_reducible refine Rt.tG ?_) | (with_reducible refine Rt.tF ?_) | (with_reducible refine Rt.os ?_) | (with_reducible refine Rt.clS ?_) | (with_reducible refine Rt.jmN ?_) | (with_reducible refine Rt.jbN ?_) | (with_reducible refine Rt.jbE ?_) | ((with_reducible apply Rt.ld0); first | assumption | exact Lc.kp (by assumption) (by assumption)) | ((with_reducible apply Rt.ld1); first | assumption | exact Lc.kp (by assumption) (by assumption)) | ((with_reducible apply Rt.ld2); first | assumption | exact Lc.kp (by assumption) (by assumption)) | ((with_reducible apply Rt.ld3); first | assumption | exact Lc.kp (by assumption) (by assumption)) | ((with_reducible apply Rt.ld4); first | assumption | exact Lc.kp (by assumption) (by assumption)) | ((with_reducible apply Rt.ol); first | assumption | exact cell_kp (by assumption) (by assumption)) | ((with_reducible apply Rt.ckR); focus ((repeat (first | (with_reducible refine Rt.fin ?_) | (with_reducible refine Rt.tL ?_) | (with_reducible refine Rt.tI ?_) | (with_reducible refine Rt.tB ?_) | (with_reducible refine Rt.tS ?_) | (with_reducible refine Rt.tP ?_) | (with_reducible refine Rt.tD ?_) | (with_reducible refine Rt.tM ?_) | (with_reducible refine Rt.tC ?_) | (with_reducible refine Rt.tN ?_) | (with_reducible refine Rt.tA ?_) | (with_reducible refine Rt.tG ?_) | (with_reducible refine Rt.tF ?_) | (with_reducible refine Rt.os ?_) | (with_reducible refine Rt.clS ?_) | (with_reducible refine Rt.jmN ?_) | (with_reducible refine Rt.jbN ?_) | (with_reducible refine Rt.jbE ?_) | ((with_reducible apply Rt.ld0); first | assumption | exact Lc.kp (by assumption) (by assumption)) | ((with_reducible apply Rt.ld1); first | assumption | exact Lc.kp (by assumption) (by assumption)) | ((with_reducible apply Rt.ld2); first | assumption | exact Lc.kp (by assumption) (by assumption)) | ((with_reducible apply Rt.ld3); first | assumption | exact Lc.kp (by assumption) (by assumption)) | ((with_reducible apply Rt.ld4); first | assumption | exact Lc.kp (by assumption) (by assumption)) | ((with_reducible apply Rt.ol); first | assumption | exact cell_kp (by assumption) (by assumption)))); exact Rt.some' rfl))))
  obtain ⟨_, e0, rfl⟩ := number_l0 (n := n) hb1 hml m' 0 n (by omega) (by omega)
  have e0' : batch_reader_number.l0 n n 0 B m' c' (m' : Int) 0 w1 = _ := e0
  rw [e0']
  (repeat (first | (with_reducible refine Rt.fin ?_) | (with_reducible refine Rt.tL ?_) | (with_reducible refine Rt.tI ?_) | (with_reducible refine Rt.tB ?_) | (with_reducible refine Rt.tS ?_) | (with_reducible refine Rt.tP ?_) | (with_reducible refine Rt.tD ?_) | (with_reducible refine Rt.tM ?_) | (with_reducible refine Rt.tC ?_) | (with_reducible refine Rt.tN ?_) | (with_reducible refine Rt.tA ?_) | (with_reducible refine Rt.tG ?_) | (with_reducible refine Rt.tF ?_) | (with_reducible refine Rt.os ?_) | (with_reducible refine Rt.clS ?_) | (with_reducible refine Rt.jmN ?_) | (with_reducible refine Rt.jbN ?_) | (with_reducible refine Rt.jbE ?_) | ((with_reducible apply Rt.ld0); first | assumption | exact Lc.kp (by assumption) (by assumption)) | ((with_reducible apply Rt.ld1); first | assumption | exact Lc.kp (by assumption) (by assumption)) | ((with_reducible apply Rt.ld2); first | assumption | exact Lc.kp (by assumption) (by assumption)) | ((with_reducible apply Rt.ld3); first | assumption | exact Lc.kp (by assumption) (by assumption)) | ((with_reducible apply Rt.ld4); first | assumption | exact Lc.kp (by assumption) (by assumption)) | ((with_reducible apply Rt.ol); first | assumption | exact cell_kp (by assumption) (by assumption)) | ((with_reducible apply Rt.ckR); focus ((repeat (first | (with_reducible refine Rt.fin ?_) | (with_reducible refine Rt.tL ?_) | (with_reducible refine Rt.tI ?_) | (with_reducible refine Rt.tB ?_) | (with_reducible refine Rt.tS ?_) | (with_reducible refine Rt.tP ?_) | (with_reducible refine Rt.tD ?_) | (with_reducible refine Rt.tM ?_) | (with_reducible refine Rt.tC ?_) | (with_reducible refine Rt.tN ?_) | (with_reducible refine Rt.tA ?_) | (with_reducible refine Rt.tG ?_) | (with_reducible refine Rt.tF ?_) | (with_reducible refine Rt.os ?_) | (with_reducible refine Rt.clS ?_) | (with_reducible refine Rt.jmN ?_) | (with_reducible refine Rt.jbN ?_) | (with_reducible refine Rt.jbE ?_) | ((with_reducible apply Rt.ld0); first | assumption | exact Lc.kp (by assumption) (by assumption)) | ((with_reducible apply Rt.ld1); first | assumption | exact Lc.kp (by assumption) (by assumption)) | ((with_reducible apply Rt.ld2); first | assumption | exact Lc.kp (by assumption) (by assumption)) | ((with_reducible apply Rt.ld3); first | assumption | exact Lc.kp (by assumption) (by assumption)) | ((with_reducible apply Rt.ld4); first | assumption | exact Lc.kp (by assumption) (by assumption)) | ((with_reducible apply Rt.ol); first | assumption | exact cell_kp (by assumption) (by assumption)))); exact Rt.some' rfl))))
  exact Rt.some' ⟨rfl, w1, i', e', rfl, h1, h2, h3, h5, h6⟩
end
end Go.Proofs.Ytkepocdeegncgaa.Ba
