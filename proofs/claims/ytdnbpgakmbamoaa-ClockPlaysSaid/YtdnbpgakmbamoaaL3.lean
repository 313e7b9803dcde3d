/- Clock, the definition's cache: out. -/
import Derived.Test.YtdnbpgakmbamoaaL2
namespace Go.Proofs.Ytdnbpgakmbamoaa.Ck
open Go Big Go.RowKit Go.IntWalk
set_option linter.unusedVariables false
set_option linter.unusedSimpArgs false
section
variable {α : Type} {Q : α → Prop} {n m base r : Nat} {w w' w0 : World} {S T : Nat → Prop} {A : Option Addr} {l c : Nat} {xs : List (List Value)} {s : Ca} {f p : Int} {N : Nat}
theorem erase_td {γ : Type} (l : List γ) (i : Nat) : l.take i ++ l.drop (i + 1) = l.eraseIdx i := by rw [List.eraseIdx_eq_take_drop_succ]
/-- The hand, behind a slot that went. -/
theorem out_hand {s : Ca} {i : Nat} {x : Slo} (hx : s.l[i]? = some x) : (goneS s i).l = s.l.eraseIdx i ∧ (goneS s i).room = s.room ∧ ((goneS s i).hand = if (if s.hand > i then s.hand - 1 else s.hand) ≥ (s.l.eraseIdx i).length then 0 else if s.hand > i then s.hand - 1 else s.hand) := by
  rw [gone_eq hx]
  generalize (if s.hand > i then s.hand - 1 else s.hand) = H
  unfold roundS
  dsimp only
  by_cases h : H ≥ (s.l.eraseIdx i).length
  · rw [if_pos h, if_pos h]; exact ⟨rfl, rfl, rfl⟩
  · rw [if_neg h, if_neg h]; exact ⟨rfl, rfl, rfl⟩
theorem ROut_spec (h : Rc w S r s) (ho : Ok N s) {i : Nat} {x : Slo} (hx : s.l[i]? = some x) : Rt (butteryref6_Cache_out n [pt r, .int .i64 (i : Int)] w) fun y => ∃ w' S', y = ([], w') ∧ Rc w' S' r (goneS s i) ∧ Gx S w w' ∧ ∀ j, S' j → S j ∨ w.heap.size ≤ j := by
  obtain ⟨ti, tz, hT⟩ := slRaw
  obtain ⟨A, c, xs, h⟩ := h
  have hrng := ho.rng
  have hbig := ho.big
  have hh := ho.hand
  obtain ⟨hi, _⟩ := List.getElem?_eq_some_iff.1 hx
  obtain ⟨room, hr1, hlc⟩ := h.lc
  have hxl := (raw_open h.row).1
  rw [butteryref6_Cache_out_eq]
  have kd : Kp w w.drew := (Kp.rfl' w).dr
  have hld := hlc.kp kd
  have hev := h.row.ev
  have hrlt := h.lt r h.sr
  refine Rt.fin ?_
  (repeat (first | (with_reducible (first | refine Rt.fin ?_ | refine Rt.tL ?_ | refine Rt.tI ?_ | refine Rt.tB ?_ | refine Rt.tS ?_ | refine Rt.tP ?_ | refine Rt.tD ?_ | refine Rt.tM ?_ | refine Rt.tC ?_ | refine Rt.tN ?_ | refine Rt.tA ?_ | refine Rt.tG ?_ | refine Rt.tF ?_ | refine Rt.os ?_ | refine Rt.clS ?_ | refine Rt.jmN ?_ | refine Rt.jbN ?_ | refine Rt.jbE ?_)) | ((with_reducible (first | apply Rt.ld0 | apply Rt.ld1 | apply Rt.ld2 | apply Rt.ld3 | apply Rt.ld4 | apply Rt.ld5)); first | assumption | exact Lc.kp (by assumption) (by assumption)) | ((with_reducible apply Rt.ol); first | assumption | exact cell_kp (by assumption) (by assumption)) | ((with_reducible apply Rt.ckR); focus ((repeat (first | (with_reducible (first | refine Rt.fin ?_ | refine Rt.tL ?_ | refine Rt.tI ?_ | refine Rt.tB ?_ | refine Rt.tS ?_ | refine Rt.tP ?_ | refine Rt.tD ?_ | refine Rt.tM ?_ | refine Rt.tC ?_ | refine Rt.tN ?_ | refine Rt.tA ?_ | refine Rt.tG ?_ | refine Rt.tF ?_ | refine Rt.os ?_ | refine Rt.clS ?_ | refine Rt.jmN ?_ | refine Rt.jbN ?_ | refine Rt.jbE ?_)) | ((with_reducible (first | apply Rt.ld0 | apply Rt.ld1 | apply Rt.ld2 | apply Rt.ld3 | apply Rt.ld4 | apply Rt.ld5)); first | assumption | exact Lc.kp (by assumption) (by assumption)) | ((with_reducible apply Rt.ol); first | assumption | exact cell_kp (by assumption) (by assumption)))); exact Rt.some' rfl))))
  refine Rt.cutE (hev.kp kd) rfl (by omega) (by omega) (by omega) fun B1 e1 => ?_
  rw [Int.toNat_natCast, show Int.toNat 0 = 0 from rfl, List.drop_zero, Nat.sub_zero, Nat.sub_zero] at e1
  rw [Int.toNat_natCast, show Int.toNat 0 = 0 from rfl, Nat.sub_zero, Nat.sub_zero]
  refine Rt.appS rfl hT (OwnE.nil w.drew w.drew.heap.size) e1.sl e1.nil (Kp.rfl' w.drew) (Nat.le_refl _) (by simp; omega) (Nat.le_refl _) fun A2 c2 w2 o2 k2 s2 => ?_
  have kk2 := k2 w.drew (Kp.rfl' _) (Nat.le_refl _)
  have hl2 := hld.kp kk2
  (repeat (first | (with_reducible (first | refine Rt.fin ?_ | refine Rt.tL ?_ | refine Rt.tI ?_ | refine Rt.tB ?_ | refine Rt.tS ?_ | refine Rt.tP ?_ | refine Rt.tD ?_ | refine Rt.tM ?_ | refine Rt.tC ?_ | refine Rt.tN ?_ | refine Rt.tA ?_ | refine Rt.tG ?_ | refine Rt.tF ?_ | refine Rt.os ?_ | refine Rt.clS ?_ | refine Rt.jmN ?_ | refine Rt.jbN ?_ | refine Rt.jbE ?_)) | ((with_reducible (first | apply Rt.ld0 | apply Rt.ld1 | apply Rt.ld2 | apply Rt.ld3 | apply Rt.ld4 | apply Rt.ld5)); first | assumption | exact Lc.kp (by assumption) (by assumption)) | ((with_reducible apply Rt.ol); first | assumption | exact cell_kp (by assumption) (by assumption)) | ((with_reducible apply Rt.ckR); focus ((repeat (first | (with_reducible (first | refine Rt.fin ?_ | refine Rt.tL ?_ | refine Rt.tI ?_ | refine Rt.tB ?_ | refine Rt.tS ?_ | refine Rt.tP ?_ | refine Rt.tD ?_ | refine Rt.tM ?_ | refine Rt.tC ?_ | refine Rt.tN ?_ | refine Rt.tA ?_ | refine Rt.tG ?_ | refine Rt.tF ?_ | refine Rt.os ?_ | refine Rt.clS ?_ | refine Rt.jmN ?_ | refine Rt.jbN ?_ | refine Rt.jbE ?_)) | ((with_reducible (first | apply Rt.ld0 | apply Rt.ld1 | apply Rt.ld2 | apply Rt.ld3 | apply Rt.ld4 | apply Rt.ld5)); first | assumption | exact Lc.kp (by assumption) (by assumption)) | ((with_reducible apply Rt.ol); first | assumption | exact cell_kp (by assumption) (by assumption)))); exact Rt.some' rfl))))
  have e0 : IntKind.i64.wrap ((i : Int) + 1) = ((i + 1 : Nat) : Int) := by rw [i64_in _ (by omega)]; omega
  rw [e0]
  have k02 : Kp w w2 := kd.tr kk2
  refine Rt.cutE (hev.kp kd) rfl (by omega) (by omega) (Int.le_refl _) fun B3 e3 => ?_
  rw [Int.toNat_natCast, Int.toNat_natCast, List.take_of_length_le (by omega)] at e3
  rw [Int.toNat_natCast, Int.toNat_natCast]
  have hwd : w.drew.heap.size = w.heap.size := rfl
  refine Rt.appS rfl hT o2 e3.sl e3.nil kk2 (Nat.le_refl _) (by simp; omega) (by omega) fun A4 c4 w4 o4 k4 s4 => ?_
  have kk4 := k4 w.drew kk2 (Nat.le_refl _)
  have hl4 := hld.kp kk4
  rw [List.nil_append, erase_td] at o4
  have hlen : ([] ++ xs.take i).length + (s.l.length - (i + 1)) = (s.l.eraseIdx i).length := by
    rw [List.nil_append, List.length_take, List.length_eraseIdx, if_pos hi]; omega
  have hlen' : (xs.take i).length + (s.l.length - (i + 1)) = (s.l.eraseIdx i).length := by
    rw [List.length_take, List.length_eraseIdx, if_pos hi]; omega
  rw [hlen'] at o4
  rw [hlen]
  have hO4 : ∀ j, On (.slice A4 (s.l.eraseIdx i).length c4) j → w.heap.size ≤ j ∧ j < w4.heap.size := fun j hj => o4.lt j hj
  (repeat (first | (with_reducible (first | refine Rt.fin ?_ | refine Rt.tL ?_ | refine Rt.tI ?_ | refine Rt.tB ?_ | refine Rt.tS ?_ | refine Rt.tP ?_ | refine Rt.tD ?_ | refine Rt.tM ?_ | refine Rt.tC ?_ | refine Rt.tN ?_ | refine Rt.tA ?_ | refine Rt.tG ?_ | refine Rt.tF ?_ | refine Rt.os ?_ | refine Rt.clS ?_ | refine Rt.jmN ?_ | refine Rt.jbN ?_ | refine Rt.jbE ?_)) | ((with_reducible (first | apply Rt.ld0 | apply Rt.ld1 | apply Rt.ld2 | apply Rt.ld3 | apply Rt.ld4 | apply Rt.ld5)); first | assumption | exact Lc.kp (by assumption) (by assumption)) | ((with_reducible apply Rt.ol); first | assumption | exact cell_kp (by assumption) (by assumption)) | ((with_reducible apply Rt.ckR); focus ((repeat (first | (with_reducible (first | refine Rt.fin ?_ | refine Rt.tL ?_ | refine Rt.tI ?_ | refine Rt.tB ?_ | refine Rt.tS ?_ | refine Rt.tP ?_ | refine Rt.tD ?_ | refine Rt.tM ?_ | refine Rt.tC ?_ | refine Rt.tN ?_ | refine Rt.tA ?_ | refine Rt.tG ?_ | refine Rt.tF ?_ | refine Rt.os ?_ | refine Rt.clS ?_ | refine Rt.jmN ?_ | refine Rt.jbN ?_ | refine Rt.jbE ?_)) | ((with_reducible (first | apply Rt.ld0 | apply Rt.ld1 | apply Rt.ld2 | apply Rt.ld3 | apply Rt.ld4 | apply Rt.ld5)); first | assumption | exact Lc.kp (by assumption) (by assumption)) | ((with_reducible apply Rt.ol); first | assumption | exact cell_kp (by assumption) (by assumption)))); exact Rt.some' rfl))))
  refine Rt.st1 hl4 fun w5 l5 g5 => ?_
  obtain ⟨q1, q2, q3⟩ := out_hand hx
  have fin_ : ∀ (w6 : World) (H : Nat), Lc w6 r [.int .i64 room, .slice A4 (s.l.eraseIdx i).length c4, .int .i64 (H : Int)] → Gx (fun k => k = r) w5 w6 → H = (goneS s i).hand → ∃ S', Rc w6 S' r (goneS s i) ∧ Gx S w w6 ∧ ∀ j, S' j → S j ∨ w.heap.size ≤ j := by
    intro w6 H l6 g6 hH
    have gT : Gx (fun k => k = r) w w6 := ((kd.tr kk4).gx.tr g5).tr g6
    have gS : Gx S w w6 := gT.wide fun k _ e => e ▸ h.sr
    have hw46 : w4.heap.size ≤ w6.heap.size := Nat.le_trans g5.size g6.size
    refine ⟨fun j => S j ∨ On (.slice A4 (s.l.eraseIdx i).length c4) j, ⟨A4, c4, xs.eraseIdx i, ⟨room, by rw [q2]; exact hr1, by rw [q1, ← hH]; exact l6⟩, ?_, ?_, ?_, .inl h.sr, ?_⟩, gS, fun j hj => hj.imp id fun h => (hO4 j h).1⟩
    · rw [q1]
      refine OwnE.gxR (o4.mono (Nat.zero_le _)) (g5.tr g6) fun j hj e => ?_
      have := (hO4 j hj).1
      have e : j = r := e
      omega
    · intro k y hy
      rw [q1] at hy ⊢
      have key : ∀ k' : Nat, s.l[k']? = some y → (xs.eraseIdx i)[k]? = xs[k']? → ∃ B d, (xs.eraseIdx i)[k]? = some (rawS B d y) ∧ Bv .u8 w6 B y.b.length d y.b ∧ ∀ j, On (.slice B y.b.length d) j → (S j ∨ On (.slice A4 (s.l.eraseIdx i).length c4) j) ∧ j ≠ r ∧ ¬ On (.slice A4 (s.l.eraseIdx i).length c4) j := by
        intro k' hk' hxk
        obtain ⟨B, d, e2, e3', e4⟩ := h.sl k' y hk'
        refine ⟨B, d, by rw [hxk]; exact e2, Bv.gx' e3' gT fun j hj e => (e4 j hj).2.1 e, fun j hj => ⟨.inl (e4 j hj).1, (e4 j hj).2.1, fun h' => ?_⟩⟩
        have := (hO4 j h').1
        have := h.lt j (e4 j hj).1
        omega
      rw [List.getElem?_eraseIdx] at hy
      split at hy
      · rename_i hlt
        exact key k hy (by rw [List.getElem?_eraseIdx, if_pos hlt])
      · rename_i hlt
        exact key (k + 1) hy (by rw [List.getElem?_eraseIdx, if_neg hlt])
    · rw [q1]
      exact fun j hj => ⟨.inr hj, fun e => by have := (hO4 j hj).1; omega⟩
    · intro j hj
      have := gS.size
      rcases hj with h' | h'
      · have := h.lt j h'; omega
      · have := (hO4 j h').2; omega
  have hH1 : ∀ (H : Nat) (w6 : World), H = (if s.hand > i then s.hand - 1 else s.hand) → Lc w6 r [.int .i64 room, .slice A4 (s.l.eraseIdx i).length c4, .int .i64 (H : Int)] → Gx (fun k => k = r) w5 w6 → ∀ {X : Option Res}, X = cond (decide ((H : Int) ≥ ((s.l.eraseIdx i).length : Int))) (opt (some (⟨r, 0, none⟩ : Addr)) fun ad50 => stC w6.drew (Addr.add ad50 2) (.int .i64 0) fun w51 => some (⟨.ret, [], w51⟩ : Res)) (some ⟨.ret, [], w6.drew⟩) → Rt X fun y => y.ex = .ret ∧ ∃ w' S', (y.vals, y.w) = ([], w') ∧ Rc w' S' r (goneS s i) ∧ Gx S w w' ∧ ∀ j, S' j → S j ∨ w.heap.size ≤ j := by
    rintro H w6 hH l6 g6 _ rfl
    rw [← hH] at q3
    have l6d := l6.kp (Kp.rfl' w6).dr
    refine Rt.cD (fun hge => ?_) fun hge => ?_
    · (repeat (first | (with_reducible (first | refine Rt.fin ?_ | refine Rt.tL ?_ | refine Rt.tI ?_ | refine Rt.tB ?_ | refine Rt.tS ?_ | refine Rt.tP ?_ | refine Rt.tD ?_ | refine Rt.tM ?_ | refine Rt.tC ?_ | refine Rt.tN ?_ | refine Rt.tA ?_ | refine Rt.tG ?_ | refine Rt.tF ?_ | refine Rt.os ?_ | refine Rt.clS ?_ | refine Rt.jmN ?_ | refine Rt.jbN ?_ | refine Rt.jbE ?_)) | ((with_reducible (first | apply Rt.ld0 | apply Rt.ld1 | apply Rt.ld2 | apply Rt.ld3 | apply Rt.ld4 | apply Rt.ld5)); first | assumption | exact Lc.kp (by assumption) (by assumption)) | ((with_reducible apply Rt.ol); first | assumption | exact cell_kp (by assumption) (by assumption)) | ((with_reducible apply Rt.ckR); focus ((repeat (first | (with_reducible (first | refine Rt.fin ?_ | refine Rt.tL ?_ | refine Rt.tI ?_ | refine Rt.tB ?_ | refine Rt.tS ?_ | refine Rt.tP ?_ | refine Rt.tD ?_ | refine Rt.tM ?_ | refine Rt.tC ?_ | refine Rt.tN ?_ | refine Rt.tA ?_ | refine Rt.tG ?_ | refine Rt.tF ?_ | refine Rt.os ?_ | refine Rt.clS ?_ | refine Rt.jmN ?_ | refine Rt.jbN ?_ | refine Rt.jbE ?_)) | ((with_reducible (first | apply Rt.ld0 | apply Rt.ld1 | apply Rt.ld2 | apply Rt.ld3 | apply Rt.ld4 | apply Rt.ld5)); first | assumption | exact Lc.kp (by assumption) (by assumption)) | ((with_reducible apply Rt.ol); first | assumption | exact cell_kp (by assumption) (by assumption)))); exact Rt.some' rfl))))
      refine Rt.st2 l6d fun w7 l7 g7 => ?_
      obtain ⟨S', a1, a2, a3⟩ := fin_ w7 0 l7 (g6.dr.tr g7) (by rw [q3, if_pos (by omega)])
      exact Rt.some' ⟨rfl, w7, S', rfl, a1, a2, a3⟩
    · obtain ⟨S', a1, a2, a3⟩ := fin_ w6.drew H l6d g6.dr (by rw [q3, if_neg (by omega)])
      exact Rt.some' ⟨rfl, w6.drew, S', rfl, a1, a2, a3⟩
  (repeat (first | (with_reducible (first | refine Rt.fin ?_ | refine Rt.tL ?_ | refine Rt.tI ?_ | refine Rt.tB ?_ | refine Rt.tS ?_ | refine Rt.tP ?_ | refine Rt.tD ?_ | refine Rt.tM ?_ | refine Rt.tC ?_ | refine Rt.tN ?_ | refine Rt.tA ?_ | refine Rt.tG ?_ | refine Rt.tF ?_ | refine Rt.os ?_ | refine Rt.clS ?_ | refine Rt.jmN ?_ | refine Rt.jbN ?_ | refine Rt.jbE ?_)) | ((with_reducible (first | apply Rt.ld0 | apply Rt.ld1 | apply Rt.ld2 | apply Rt.ld3 | apply Rt.ld4 | apply Rt.ld5)); first | assumption | exact Lc.kp (by assumption) (by assumption)) | ((with_reducible apply Rt.ol); first | assumption | exact cell_kp (by assumption) (by assumption)) | ((with_reducible apply Rt.ckR); focus ((repeat (first | (with_reducible (first | refine Rt.fin ?_ | refine Rt.tL ?_ | refine Rt.tI ?_ | refine Rt.tB ?_ | refine Rt.tS ?_ | refine Rt.tP ?_ | refine Rt.tD ?_ | refine Rt.tM ?_ | refine Rt.tC ?_ | refine Rt.tN ?_ | refine Rt.tA ?_ | refine Rt.tG ?_ | refine Rt.tF ?_ | refine Rt.os ?_ | refine Rt.clS ?_ | refine Rt.jmN ?_ | refine Rt.jbN ?_ | refine Rt.jbE ?_)) | ((with_reducible (first | apply Rt.ld0 | apply Rt.ld1 | apply Rt.ld2 | apply Rt.ld3 | apply Rt.ld4 | apply Rt.ld5)); first | assumption | exact Lc.kp (by assumption) (by assumption)) | ((with_reducible apply Rt.ol); first | assumption | exact cell_kp (by assumption) (by assumption)))); exact Rt.some' rfl))))
  refine Rt.jm ?_
  (repeat (first | (with_reducible (first | refine Rt.fin ?_ | refine Rt.tL ?_ | refine Rt.tI ?_ | refine Rt.tB ?_ | refine Rt.tS ?_ | refine Rt.tP ?_ | refine Rt.tD ?_ | refine Rt.tM ?_ | refine Rt.tC ?_ | refine Rt.tN ?_ | refine Rt.tA ?_ | refine Rt.tG ?_ | refine Rt.tF ?_ | refine Rt.os ?_ | refine Rt.clS ?_ | refine Rt.jmN ?_ | refine Rt.jbN ?_ | refine Rt.jbE ?_)) | ((with_reducible (first | apply Rt.ld0 | apply Rt.ld1 | apply Rt.ld2 | apply Rt.ld3 | apply Rt.ld4 | apply Rt.ld5)); first | assumption | exact Lc.kp (by assumption) (by assumption)) | ((with_reducible apply Rt.ol); first | assumption | exact cell_kp (by assumption) (by assumption)) | ((with_reducible apply Rt.ckR); focus ((repeat (first | (with_reducible (first | refine Rt.fin ?_ | refine Rt.tL ?_ | refine Rt.tI ?_ | refine Rt.tB ?_ | refine Rt.tS ?_ | refine Rt.tP ?_ | refine Rt.tD ?_ | refine Rt.tM ?_ | refine Rt.tC ?_ | refine Rt.tN ?_ | refine Rt.tA ?_ | refine Rt.tG ?_ | refine Rt.tF ?_ | refine Rt.os ?_ | refine Rt.clS ?_ | refine Rt.jmN ?_ | refine Rt.jbN ?_ | refine Rt.jbE ?_)) | ((with_reducible (first | apply Rt.ld0 | apply Rt.ld1 | apply Rt.ld2 | apply Rt.ld3 | apply Rt.ld4 | apply Rt.ld5)); first | assumption | exact Lc.kp (by assumption) (by assumption)) | ((with_reducible apply Rt.ol); first | assumption | exact cell_kp (by assumption) (by assumption)))); exact Rt.some' rfl))))
  refine Rt.cD (fun hgt => ?_) fun hgt => ?_
  · (repeat (first | (with_reducible (first | refine Rt.fin ?_ | refine Rt.tL ?_ | refine Rt.tI ?_ | refine Rt.tB ?_ | refine Rt.tS ?_ | refine Rt.tP ?_ | refine Rt.tD ?_ | refine Rt.tM ?_ | refine Rt.tC ?_ | refine Rt.tN ?_ | refine Rt.tA ?_ | refine Rt.tG ?_ | refine Rt.tF ?_ | refine Rt.os ?_ | refine Rt.clS ?_ | refine Rt.jmN ?_ | refine Rt.jbN ?_ | refine Rt.jbE ?_)) | ((with_reducible (first | apply Rt.ld0 | apply Rt.ld1 | apply Rt.ld2 | apply Rt.ld3 | apply Rt.ld4 | apply Rt.ld5)); first | assumption | exact Lc.kp (by assumption) (by assumption)) | ((with_reducible apply Rt.ol); first | assumption | exact cell_kp (by assumption) (by assumption)) | ((with_reducible apply Rt.ckR); focus ((repeat (first | (with_reducible (first | refine Rt.fin ?_ | refine Rt.tL ?_ | refine Rt.tI ?_ | refine Rt.tB ?_ | refine Rt.tS ?_ | refine Rt.tP ?_ | refine Rt.tD ?_ | refine Rt.tM ?_ | refine Rt.tC ?_ | refine Rt.tN ?_ | refine Rt.tA ?_ | refine Rt.tG ?_ | refine Rt.tF ?_ | refine Rt.os ?_ | refine Rt.clS ?_ | refine Rt.jmN ?_ | refine Rt.jbN ?_ | refine Rt.jbE ?_)) | ((with_reducible (first | apply Rt.ld0 | apply Rt.ld1 | apply Rt.ld2 | apply Rt.ld3 | apply Rt.ld4 | apply Rt.ld5)); first | assumption | exact Lc.kp (by assumption) (by assumption)) | ((with_reducible apply Rt.ol); first | assumption | exact cell_kp (by assumption) (by assumption)))); exact Rt.some' rfl))))
    refine Rt.st2 l5 fun w6 l6 g6 => Rt.some' ⟨rfl, ?_⟩
    have e5 : IntKind.i64.wrap ((s.hand : Int) - 1) = ((s.hand - 1 : Nat) : Int) := by rw [i64_in _ (by omega)]; omega
    rw [e5] at l6
    have l6d := l6.kp (Kp.rfl' w6).dr
    (repeat (first | (with_reducible (first | refine Rt.fin ?_ | refine Rt.tL ?_ | refine Rt.tI ?_ | refine Rt.tB ?_ | refine Rt.tS ?_ | refine Rt.tP ?_ | refine Rt.tD ?_ | refine Rt.tM ?_ | refine Rt.tC ?_ | refine Rt.tN ?_ | refine Rt.tA ?_ | refine Rt.tG ?_ | refine Rt.tF ?_ | refine Rt.os ?_ | refine Rt.clS ?_ | refine Rt.jmN ?_ | refine Rt.jbN ?_ | refine Rt.jbE ?_)) | ((with_reducible (first | apply Rt.ld0 | apply Rt.ld1 | apply Rt.ld2 | apply Rt.ld3 | apply Rt.ld4 | apply Rt.ld5)); first | assumption | exact Lc.kp (by assumption) (by assumption)) | ((with_reducible apply Rt.ol); first | assumption | exact cell_kp (by assumption) (by assumption)) | ((with_reducible apply Rt.ckR); focus ((repeat (first | (with_reducible (first | refine Rt.fin ?_ | refine Rt.tL ?_ | refine Rt.tI ?_ | refine Rt.tB ?_ | refine Rt.tS ?_ | refine Rt.tP ?_ | refine Rt.tD ?_ | refine Rt.tM ?_ | refine Rt.tC ?_ | refine Rt.tN ?_ | refine Rt.tA ?_ | refine Rt.tG ?_ | refine Rt.tF ?_ | refine Rt.os ?_ | refine Rt.clS ?_ | refine Rt.jmN ?_ | refine Rt.jbN ?_ | refine Rt.jbE ?_)) | ((with_reducible (first | apply Rt.ld0 | apply Rt.ld1 | apply Rt.ld2 | apply Rt.ld3 | apply Rt.ld4 | apply Rt.ld5)); first | assumption | exact Lc.kp (by assumption) (by assumption)) | ((with_reducible apply Rt.ol); first | assumption | exact cell_kp (by assumption) (by assumption)))); exact Rt.some' rfl))))
    exact hH1 _ w6 (by rw [if_pos (by omega)]) l6 g6 rfl
  · refine Rt.some' ⟨rfl, ?_⟩
    have l5d := l5.kp (Kp.rfl' w5).dr
    (repeat (first | (with_reducible (first | refine Rt.fin ?_ | refine Rt.tL ?_ | refine Rt.tI ?_ | refine Rt.tB ?_ | refine Rt.tS ?_ | refine Rt.tP ?_ | refine Rt.tD ?_ | refine Rt.tM ?_ | refine Rt.tC ?_ | refine Rt.tN ?_ | refine Rt.tA ?_ | refine Rt.tG ?_ | refine Rt.tF ?_ | refine Rt.os ?_ | refine Rt.clS ?_ | refine Rt.jmN ?_ | refine Rt.jbN ?_ | refine Rt.jbE ?_)) | ((with_reducible (first | apply Rt.ld0 | apply Rt.ld1 | apply Rt.ld2 | apply Rt.ld3 | apply Rt.ld4 | apply Rt.ld5)); first | assumption | exact Lc.kp (by assumption) (by assumption)) | ((with_reducible apply Rt.ol); first | assumption | exact cell_kp (by assumption) (by assumption)) | ((with_reducible apply Rt.ckR); focus ((repeat (first | (with_reducible (first | refine Rt.fin ?_ | refine Rt.tL ?_ | refine Rt.tI ?_ | refine Rt.tB ?_ | refine Rt.tS ?_ | refine Rt.tP ?_ | refine Rt.tD ?_ | refine Rt.tM ?_ | refine Rt.tC ?_ | refine Rt.tN ?_ | refine Rt.tA ?_ | refine Rt.tG ?_ | refine Rt.tF ?_ | refine Rt.os ?_ | refine Rt.clS ?_ | refine Rt.jmN ?_ | refine Rt.jbN ?_ | refine Rt.jbE ?_)) | ((with_reducible (first | apply Rt.ld0 | apply Rt.ld1 | apply Rt.ld2 | apply Rt.ld3 | apply Rt.ld4 | apply Rt.ld5)); first | assumption | exact Lc.kp (by assumption) (by assumption)) | ((with_reducible apply Rt.ol); first | assumption | exact cell_kp (by assumption) (by assumption)))); exact Rt.some' rfl))))
    exact hH1 _ w5 (by rw [if_neg (by omega)]) l5 (Gx.rfl' _ _) rfl
end
end Go.Proofs.Ytdnbpgakmbamoaa.Ck
