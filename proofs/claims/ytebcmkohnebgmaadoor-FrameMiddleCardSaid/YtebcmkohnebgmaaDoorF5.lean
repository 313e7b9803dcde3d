/- Frames: the whole of a log is read by the program. -/
import Derived.Test.YtebcmkohnebgmaaDoorF4
namespace Go.Proofs.YtebcmkohnebgmaaDoor.Fr
open Go Big Go.RowKit Go.IntWalk Crc
set_option linter.unusedVariables false
set_option linter.unusedSimpArgs false
section
variable {α : Type} {Q : Res → Prop} {n m : Nat} {w w' w0 w1 : World} {A B C : Option Addr} {l c d base lo co at_ p tk : Nat} {k : Int} {x r out o zs s now : List Int} {rs acc : List (List Int)} {wi : Bool}
theorem OwnX_ev {γ : Type} {E : El γ} {e : TypeId} {S : Nat → Prop} {xs : List γ} (h : OwnX S E e w base (.slice A l c) xs) : Ev E w A l c xs := h.ownE.ev
theorem All_g1 (hs : RS w p A c B l d at_ acc now wi tk) {cl : Int} (hm : 0 < m) (h : ∀ R rc, Ev byEl w.drew R acc.length rc acc → Q ⟨.ret, [.slice R acc.length rc, .int .i64 (tk : Int), .int .i64 cl], w.drew⟩) : Rt (frame_All.g1 n m ⟨p, 0, none⟩ cl w) Q := by
  obtain ⟨m, rfl⟩ : ∃ m', m = m' + 1 := ⟨m - 1, by omega⟩
  obtain ⟨R, rc, N, nc, hX⟩ := hs.kp (Kp.rfl' w).dr
  have h1 := hX.lc
  rw [frame_All.g1_succ]
  refine Rt.ldn (j := 3) h1 rfl (Rt.tL (Rt.ldn (j := 6) h1 rfl (Rt.tI (Rt.some' (h R rc (OwnX_ev hX.ro))))))
theorem lookP_split {at_ : Nat} {s : List Int} {wi : Bool} (h : ∀ z ∈ s.take (padN at_), z = 0) : lookP sm at_ s wi = (lookS sm (at_ + (s.take (padN at_)).length) (s.drop (padN at_)) wi).on (s.take (padN at_)).length := by
  unfold lookP
  rw [if_pos h]
theorem All_round (hn : 2 ^ 50 < n) (hm : 0 < m) (ht : Sl .u32 w0 A 256 tab) (hb : Bv .u8 w0 B l d zs) (hl : l ≤ 2 ^ 36) (ha : at_ ≤ l) (hp : w0.heap.size ≤ p) (hk : Kp w0 w) (hs : RS w p A c B l d at_ acc now wi tk) (hnow : now.length ≤ at_) (hrs : acc.length ≤ at_)
    (hstop : ∀ c', lookP sm at_ (zs.drop at_) wi = .stop c' → ∀ R rc w', Ev byEl w' R acc.length rc acc → Kp w0 w' → Q ⟨.ret, [.slice R acc.length rc, .int .i64 (tk : Int), .int .i64 c'], w'⟩)
    (hgo : ∀ u x mm w', lookP sm at_ (zs.drop at_) wi = .go u x mm → Kp w0 w' → RS w' p A c B l d (at_ + u) (after at_ acc now x u mm tk).1 (after at_ acc now x u mm tk).2.1 mm (after at_ acc now x u mm tk).2.2 → Rt (frame_All.g0 n m B l d ⟨p, 0, none⟩ 0 w') Q) :
    Rt (frame_All.g0 n (m + 1) B l d ⟨p, 0, none⟩ 0 w) Q := by
  have hzl := hb.len
  obtain ⟨R, rc, N, nc, hX⟩ := hs
  have h1 := hX.lc
  have hpl := h1.lt
  rw [frame_All.g0_succ]
  (repeat (first | (with_reducible (first | refine Rt.fin ?_ | refine Rt.tL ?_ | refine Rt.tI ?_ | refine Rt.tB ?_ | refine Rt.tS ?_ | refine Rt.tP ?_ | refine Rt.tD ?_ | refine Rt.tM ?_ | refine Rt.tC ?_ | refine Rt.tN ?_ | refine Rt.tA ?_ | refine Rt.tG ?_ | refine Rt.tF ?_ | refine Rt.os ?_ | refine Rt.clS ?_ | refine Rt.jmN ?_ | refine Rt.jbN ?_ | refine Rt.jbE ?_)) | ((with_reducible (first | apply Rt.ld0 | apply Rt.ld1 | apply Rt.ld2 | apply Rt.ld3 | apply Rt.ld4 | apply Rt.ld5)); first | assumption | exact Lc.kp (by assumption) (by assumption)) | ((with_reducible apply Rt.ol); first | assumption | exact cell_kp (by assumption) (by assumption)) | ((with_reducible apply Rt.ckR); focus ((repeat (first | (with_reducible (first | refine Rt.fin ?_ | refine Rt.tL ?_ | refine Rt.tI ?_ | refine Rt.tB ?_ | refine Rt.tS ?_ | refine Rt.tP ?_ | refine Rt.tD ?_ | refine Rt.tM ?_ | refine Rt.tC ?_ | refine Rt.tN ?_ | refine Rt.tA ?_ | refine Rt.tG ?_ | refine Rt.tF ?_ | refine Rt.os ?_ | refine Rt.clS ?_ | refine Rt.jmN ?_ | refine Rt.jbN ?_ | refine Rt.jbE ?_)) | ((with_reducible (first | apply Rt.ld0 | apply Rt.ld1 | apply Rt.ld2 | apply Rt.ld3 | apply Rt.ld4 | apply Rt.ld5)); first | assumption | exact Lc.kp (by assumption) (by assumption)) | ((with_reducible apply Rt.ol); first | assumption | exact cell_kp (by assumption) (by assumption)))); exact Rt.some' rfl))))
  refine Rt.call (noughts_spec (w := w) hn (hb.kp hk) (by omega) ha) ?_
  rintro vs w2 ⟨b, w2', hr, k2, hb2⟩
  cases hr
  (repeat (first | (with_reducible (first | refine Rt.fin ?_ | refine Rt.tL ?_ | refine Rt.tI ?_ | refine Rt.tB ?_ | refine Rt.tS ?_ | refine Rt.tP ?_ | refine Rt.tD ?_ | refine Rt.tM ?_ | refine Rt.tC ?_ | refine Rt.tN ?_ | refine Rt.tA ?_ | refine Rt.tG ?_ | refine Rt.tF ?_ | refine Rt.os ?_ | refine Rt.clS ?_ | refine Rt.jmN ?_ | refine Rt.jbN ?_ | refine Rt.jbE ?_)) | ((with_reducible (first | apply Rt.ld0 | apply Rt.ld1 | apply Rt.ld2 | apply Rt.ld3 | apply Rt.ld4 | apply Rt.ld5)); first | assumption | exact Lc.kp (by assumption) (by assumption)) | ((with_reducible apply Rt.ol); first | assumption | exact cell_kp (by assumption) (by assumption)) | ((with_reducible apply Rt.ckR); focus ((repeat (first | (with_reducible (first | refine Rt.fin ?_ | refine Rt.tL ?_ | refine Rt.tI ?_ | refine Rt.tB ?_ | refine Rt.tS ?_ | refine Rt.tP ?_ | refine Rt.tD ?_ | refine Rt.tM ?_ | refine Rt.tC ?_ | refine Rt.tN ?_ | refine Rt.tA ?_ | refine Rt.tG ?_ | refine Rt.tF ?_ | refine Rt.os ?_ | refine Rt.clS ?_ | refine Rt.jmN ?_ | refine Rt.jbN ?_ | refine Rt.jbE ?_)) | ((with_reducible (first | apply Rt.ld0 | apply Rt.ld1 | apply Rt.ld2 | apply Rt.ld3 | apply Rt.ld4 | apply Rt.ld5)); first | assumption | exact Lc.kp (by assumption) (by assumption)) | ((with_reducible apply Rt.ol); first | assumption | exact cell_kp (by assumption) (by assumption)))); exact Rt.some' rfl))))
  have X2 := hX.kp k2
  have h2 := X2.lc
  have hpN := padN_le at_
  have hpl2 : ((zs.drop at_).take (padN at_)).length = min (padN at_) (l - at_) := by rw [List.length_take, List.length_drop, hzl]
  generalize hpq : ((zs.drop at_).take (padN at_)).length = pl at *
  (repeat (first | (with_reducible (first | refine Rt.fin ?_ | refine Rt.tL ?_ | refine Rt.tI ?_ | refine Rt.tB ?_ | refine Rt.tS ?_ | refine Rt.tP ?_ | refine Rt.tD ?_ | refine Rt.tM ?_ | refine Rt.tC ?_ | refine Rt.tN ?_ | refine Rt.tA ?_ | refine Rt.tG ?_ | refine Rt.tF ?_ | refine Rt.os ?_ | refine Rt.clS ?_ | refine Rt.jmN ?_ | refine Rt.jbN ?_ | refine Rt.jbE ?_)) | ((with_reducible (first | apply Rt.ld0 | apply Rt.ld1 | apply Rt.ld2 | apply Rt.ld3 | apply Rt.ld4 | apply Rt.ld5)); first | assumption | exact Lc.kp (by assumption) (by assumption)) | ((with_reducible apply Rt.ol); first | assumption | exact cell_kp (by assumption) (by assumption)) | ((with_reducible apply Rt.ckR); focus ((repeat (first | (with_reducible (first | refine Rt.fin ?_ | refine Rt.tL ?_ | refine Rt.tI ?_ | refine Rt.tB ?_ | refine Rt.tS ?_ | refine Rt.tP ?_ | refine Rt.tD ?_ | refine Rt.tM ?_ | refine Rt.tC ?_ | refine Rt.tN ?_ | refine Rt.tA ?_ | refine Rt.tG ?_ | refine Rt.tF ?_ | refine Rt.os ?_ | refine Rt.clS ?_ | refine Rt.jmN ?_ | refine Rt.jbN ?_ | refine Rt.jbE ?_)) | ((with_reducible (first | apply Rt.ld0 | apply Rt.ld1 | apply Rt.ld2 | apply Rt.ld3 | apply Rt.ld4 | apply Rt.ld5)); first | assumption | exact Lc.kp (by assumption) (by assumption)) | ((with_reducible apply Rt.ol); first | assumption | exact cell_kp (by assumption) (by assumption)))); exact Rt.some' rfl))))
  rw [i64_in _ (by omega), show (at_ : Int) + (pl : Int) = ((at_ + pl : Nat) : Int) by omega]
  refine Rt.stn (j := 2) h2 (by simp) fun w3 m3 g3 => ?_
  have X3 : RX w3 p A c B l d (at_ + pl) R rc acc N nc now wi tk := X2.put g3 m3
  have m3 := X3.lc
  have k3 : Kp w0 w3 := (hk.tr k2).tx g3 fun j hj => by subst hj; exact hp
  cases b with
  | false =>
    refine Rt.cT rfl (All_g1 ⟨_, _, _, _, X3⟩ hm fun R rc hev => hstop 2 ?_ R rc _ hev k3.dr)
    unfold lookP
    rw [if_neg (fun h => by simpa using hb2.2 h)]
  | true =>
    have hz := hb2.1 rfl
    have hlp := lookP_split (at_ := at_) (s := zs.drop at_) (wi := wi) hz
    rw [hpq, List.drop_drop] at hlp
    refine Rt.cF rfl ?_
    (repeat (first | (with_reducible (first | refine Rt.fin ?_ | refine Rt.tL ?_ | refine Rt.tI ?_ | refine Rt.tB ?_ | refine Rt.tS ?_ | refine Rt.tP ?_ | refine Rt.tD ?_ | refine Rt.tM ?_ | refine Rt.tC ?_ | refine Rt.tN ?_ | refine Rt.tA ?_ | refine Rt.tG ?_ | refine Rt.tF ?_ | refine Rt.os ?_ | refine Rt.clS ?_ | refine Rt.jmN ?_ | refine Rt.jbN ?_ | refine Rt.jbE ?_)) | ((with_reducible (first | apply Rt.ld0 | apply Rt.ld1 | apply Rt.ld2 | apply Rt.ld3 | apply Rt.ld4 | apply Rt.ld5)); first | assumption | exact Lc.kp (by assumption) (by assumption)) | ((with_reducible apply Rt.ol); first | assumption | exact cell_kp (by assumption) (by assumption)) | ((with_reducible apply Rt.ckR); focus ((repeat (first | (with_reducible (first | refine Rt.fin ?_ | refine Rt.tL ?_ | refine Rt.tI ?_ | refine Rt.tB ?_ | refine Rt.tS ?_ | refine Rt.tP ?_ | refine Rt.tD ?_ | refine Rt.tM ?_ | refine Rt.tC ?_ | refine Rt.tN ?_ | refine Rt.tA ?_ | refine Rt.tG ?_ | refine Rt.tF ?_ | refine Rt.os ?_ | refine Rt.clS ?_ | refine Rt.jmN ?_ | refine Rt.jbN ?_ | refine Rt.jbE ?_)) | ((with_reducible (first | apply Rt.ld0 | apply Rt.ld1 | apply Rt.ld2 | apply Rt.ld3 | apply Rt.ld4 | apply Rt.ld5)); first | assumption | exact Lc.kp (by assumption) (by assumption)) | ((with_reducible apply Rt.ol); first | assumption | exact cell_kp (by assumption) (by assumption)))); exact Rt.some' rfl))))
    refine Rt.cQ (fun he => ?_) fun he => ?_
    · have hnil : zs.drop (at_ + padN at_) = [] := List.drop_of_length_le (by omega)
      have hlp : lookP sm at_ (zs.drop at_) wi = .stop (if wi = true then 1 else 0) := by
        rw [hlp, hnil]
        unfold lookS
        rw [if_pos rfl]; rfl
      (repeat (first | (with_reducible (first | refine Rt.fin ?_ | refine Rt.tL ?_ | refine Rt.tI ?_ | refine Rt.tB ?_ | refine Rt.tS ?_ | refine Rt.tP ?_ | refine Rt.tD ?_ | refine Rt.tM ?_ | refine Rt.tC ?_ | refine Rt.tN ?_ | refine Rt.tA ?_ | refine Rt.tG ?_ | refine Rt.tF ?_ | refine Rt.os ?_ | refine Rt.clS ?_ | refine Rt.jmN ?_ | refine Rt.jbN ?_ | refine Rt.jbE ?_)) | ((with_reducible (first | apply Rt.ld0 | apply Rt.ld1 | apply Rt.ld2 | apply Rt.ld3 | apply Rt.ld4 | apply Rt.ld5)); first | assumption | exact Lc.kp (by assumption) (by assumption)) | ((with_reducible apply Rt.ol); first | assumption | exact cell_kp (by assumption) (by assumption)) | ((with_reducible apply Rt.ckR); focus ((repeat (first | (with_reducible (first | refine Rt.fin ?_ | refine Rt.tL ?_ | refine Rt.tI ?_ | refine Rt.tB ?_ | refine Rt.tS ?_ | refine Rt.tP ?_ | refine Rt.tD ?_ | refine Rt.tM ?_ | refine Rt.tC ?_ | refine Rt.tN ?_ | refine Rt.tA ?_ | refine Rt.tG ?_ | refine Rt.tF ?_ | refine Rt.os ?_ | refine Rt.clS ?_ | refine Rt.jmN ?_ | refine Rt.jbN ?_ | refine Rt.jbE ?_)) | ((with_reducible (first | apply Rt.ld0 | apply Rt.ld1 | apply Rt.ld2 | apply Rt.ld3 | apply Rt.ld4 | apply Rt.ld5)); first | assumption | exact Lc.kp (by assumption) (by assumption)) | ((with_reducible apply Rt.ol); first | assumption | exact cell_kp (by assumption) (by assumption)))); exact Rt.some' rfl))))
      cases wi with
      | true => exact Rt.cT rfl (All_g1 ⟨_, _, _, _, X3⟩ hm fun R rc hev => hstop 1 hlp R rc _ hev k3.dr)
      | false => exact Rt.cF rfl (All_g1 ⟨_, _, _, _, X3⟩ hm fun R rc hev => hstop 0 hlp R rc _ hev k3.dr)
    · have hpl3 : pl = padN at_ := by omega
      have ht3 := take_spec (w := w3) hn ht hb hl (at_ := at_ + pl) (by omega) (by rw [hpl3]; exact padN_mod at_) hp k3 ⟨_, _, _, _, X3⟩ (by omega) (by omega)
      refine Rt.call ht3 ?_
      rintro vs w4 ⟨w4', k4, ⟨c', h5, h6, hr, hs4⟩ | ⟨u, x, mm, h5, hr, hs4⟩⟩
      · cases hr
        rw [hpl3] at h5
        rw [hpl3, h5] at hlp
        (repeat (first | (with_reducible (first | refine Rt.fin ?_ | refine Rt.tL ?_ | refine Rt.tI ?_ | refine Rt.tB ?_ | refine Rt.tS ?_ | refine Rt.tP ?_ | refine Rt.tD ?_ | refine Rt.tM ?_ | refine Rt.tC ?_ | refine Rt.tN ?_ | refine Rt.tA ?_ | refine Rt.tG ?_ | refine Rt.tF ?_ | refine Rt.os ?_ | refine Rt.clS ?_ | refine Rt.jmN ?_ | refine Rt.jbN ?_ | refine Rt.jbE ?_)) | ((with_reducible (first | apply Rt.ld0 | apply Rt.ld1 | apply Rt.ld2 | apply Rt.ld3 | apply Rt.ld4 | apply Rt.ld5)); first | assumption | exact Lc.kp (by assumption) (by assumption)) | ((with_reducible apply Rt.ol); first | assumption | exact cell_kp (by assumption) (by assumption)) | ((with_reducible apply Rt.ckR); focus ((repeat (first | (with_reducible (first | refine Rt.fin ?_ | refine Rt.tL ?_ | refine Rt.tI ?_ | refine Rt.tB ?_ | refine Rt.tS ?_ | refine Rt.tP ?_ | refine Rt.tD ?_ | refine Rt.tM ?_ | refine Rt.tC ?_ | refine Rt.tN ?_ | refine Rt.tA ?_ | refine Rt.tG ?_ | refine Rt.tF ?_ | refine Rt.os ?_ | refine Rt.clS ?_ | refine Rt.jmN ?_ | refine Rt.jbN ?_ | refine Rt.jbE ?_)) | ((with_reducible (first | apply Rt.ld0 | apply Rt.ld1 | apply Rt.ld2 | apply Rt.ld3 | apply Rt.ld4 | apply Rt.ld5)); first | assumption | exact Lc.kp (by assumption) (by assumption)) | ((with_reducible apply Rt.ol); first | assumption | exact cell_kp (by assumption) (by assumption)))); exact Rt.some' rfl))))
        refine Rt.cQ (fun h => absurd h h6) fun _ => ?_
        obtain ⟨R4, rc4, N4, nc4, X4⟩ := hs4.kp (Kp.rfl' w4).dr
        have m4 := X4.lc
        exact Rt.ldn (j := 3) m4 rfl (Rt.tL (Rt.ldn (j := 6) m4 rfl (Rt.tI (Rt.some' (hstop c' hlp R4 rc4 _ (OwnX_ev X4.ro) k4.dr)))))
      · cases hr
        rw [hpl3] at h5
        rw [hpl3, h5] at hlp
        (repeat (first | (with_reducible (first | refine Rt.fin ?_ | refine Rt.tL ?_ | refine Rt.tI ?_ | refine Rt.tB ?_ | refine Rt.tS ?_ | refine Rt.tP ?_ | refine Rt.tD ?_ | refine Rt.tM ?_ | refine Rt.tC ?_ | refine Rt.tN ?_ | refine Rt.tA ?_ | refine Rt.tG ?_ | refine Rt.tF ?_ | refine Rt.os ?_ | refine Rt.clS ?_ | refine Rt.jmN ?_ | refine Rt.jbN ?_ | refine Rt.jbE ?_)) | ((with_reducible (first | apply Rt.ld0 | apply Rt.ld1 | apply Rt.ld2 | apply Rt.ld3 | apply Rt.ld4 | apply Rt.ld5)); first | assumption | exact Lc.kp (by assumption) (by assumption)) | ((with_reducible apply Rt.ol); first | assumption | exact cell_kp (by assumption) (by assumption)) | ((with_reducible apply Rt.ckR); focus ((repeat (first | (with_reducible (first | refine Rt.fin ?_ | refine Rt.tL ?_ | refine Rt.tI ?_ | refine Rt.tB ?_ | refine Rt.tS ?_ | refine Rt.tP ?_ | refine Rt.tD ?_ | refine Rt.tM ?_ | refine Rt.tC ?_ | refine Rt.tN ?_ | refine Rt.tA ?_ | refine Rt.tG ?_ | refine Rt.tF ?_ | refine Rt.os ?_ | refine Rt.clS ?_ | refine Rt.jmN ?_ | refine Rt.jbN ?_ | refine Rt.jbE ?_)) | ((with_reducible (first | apply Rt.ld0 | apply Rt.ld1 | apply Rt.ld2 | apply Rt.ld3 | apply Rt.ld4 | apply Rt.ld5)); first | assumption | exact Lc.kp (by assumption) (by assumption)) | ((with_reducible apply Rt.ol); first | assumption | exact cell_kp (by assumption) (by assumption)))); exact Rt.some' rfl))))
        refine Rt.cQ (fun _ => ?_) fun h => absurd rfl h
        have e : after (at_ + pl) acc now x u mm tk = after at_ acc now x (padN at_ + u) mm tk := by
          unfold after
          rw [hpl3, Nat.add_assoc]
        rw [e, hpl3, Nat.add_assoc] at hs4
        exact hgo _ _ _ _ hlp k4 hs4
theorem All_g0 (hn : 2 ^ 50 < n) (ht : Sl .u32 w0 A 256 tab) (hb : Bv .u8 w0 B l d zs) (hl : l ≤ 2 ^ 36) (hp : w0.heap.size ≤ p) {d' : Nat} {cl : Int} (h : Rd sm at_ s wi now tk rs d' cl) : s = zs.drop at_ → at_ ≤ l → ∀ (m : Nat) (w : World) (acc : List (List Int)), s.length + 2 ≤ m → Kp w0 w → RS w p A c B l d at_ acc now wi tk → now.length ≤ at_ → acc.length ≤ at_ →
    Rt (frame_All.g0 n m B l d ⟨p, 0, none⟩ 0 w) fun r => r.ex = .ret ∧ ∃ R rc, r.vals = [.slice R (acc ++ rs).length rc, .int .i64 (d' : Int), .int .i64 cl] ∧ Ev byEl r.w R (acc ++ rs).length rc (acc ++ rs) ∧ Kp w0 r.w := by
  induction h with
  | stop h =>
    intro hs ha m w acc hm hk hR h1 h2
    obtain ⟨m, rfl⟩ : ∃ m', m = m' + 1 := ⟨m - 1, by omega⟩
    subst hs
    refine All_round hn (by omega) ht hb hl ha hp hk hR h1 h2 (fun c' hc R rc w' hev k' => ?_) fun u x mm w' hg => ?_
    · have hcc := Stp.stop.inj (h.symm.trans hc)
      rw [← hcc]
      have e : acc ++ [] = acc := List.append_nil acc
      exact ⟨rfl, R, rc, by rw [e], by rw [e]; exact hev, k'⟩
    · have hg := h.symm.trans hg
      cases hg
  | more h t ih =>
    intro hs ha m w acc hm hk hR h1 h2
    obtain ⟨m, rfl⟩ : ∃ m', m = m' + 1 := ⟨m - 1, by omega⟩
    subst hs
    have hgo := lookP_go h
    rw [List.length_drop] at hm hgo
    have hzl := hb.len
    refine All_round hn (by omega) ht hb hl ha hp hk hR h1 h2 (fun c' hc => ?_) fun u x mm w' hg k' hR' => ?_
    · have hc := h.symm.trans hc
      cases hc
    · have hg := h.symm.trans hg
      injection hg with e1 e2 e3
      subst e1 e2 e3
      exact ih (by rw [List.drop_drop]) (by omega) m w' acc (by rw [List.length_drop, List.length_drop]; omega) k' hR' (by rw [List.length_append]; omega) (by omega)
  | last h t ih =>
    intro hs ha m w acc hm hk hR h1 h2
    obtain ⟨m, rfl⟩ : ∃ m', m = m' + 1 := ⟨m - 1, by omega⟩
    subst hs
    have hgo := lookP_go h
    rw [List.length_drop] at hm hgo
    have hzl := hb.len
    refine All_round hn (by omega) ht hb hl ha hp hk hR h1 h2 (fun c' hc => ?_) fun u x mm w' hg k' hR' => ?_
    · have hc := h.symm.trans hc
      cases hc
    · have hg := h.symm.trans hg
      injection hg with e1 e2 e3
      subst e1 e2 e3
      have := ih (by rw [List.drop_drop]) (by omega) m w' (acc ++ [_]) (by rw [List.length_drop, List.length_drop]; omega) k' hR' (by simp) (by rw [List.length_append, List.length_singleton]; omega)
      rw [List.append_assoc] at this
      exact this
/-- What All answers. -/
def RAll (w0 : World) (rs : List (List Int)) (d' : Nat) (cl : Int) : List Value × World → Prop := fun r => ∃ R rc w', r = ([.slice R rs.length rc, .int .i64 (d' : Int), .int .i64 cl], w') ∧ Ev byEl w' R rs.length rc rs ∧ Kp w0 w'
theorem All_spec (hn : 2 ^ 50 < n) (hb : Bv .u8 w B l d zs) (hl : l ≤ 2 ^ 36) {d' : Nat} {cl : Int} (h : Rd sm 0 zs false [] 0 rs d' cl) : Rt (frame_All n [.slice B l d] w) (RAll w rs d' cl) := by
  have hzl := hb.len
  rw [frame_All_eq]
  refine Rt.fin (Rt.jmX (Rt.call (Table_rt hn) fun vs w1 hT => ?_))
  obtain ⟨A, c, w1', e, ot, k1⟩ := hT
  injection e with e e'
  subst e e'
  (repeat (first | (with_reducible (first | refine Rt.fin ?_ | refine Rt.tL ?_ | refine Rt.tI ?_ | refine Rt.tB ?_ | refine Rt.tS ?_ | refine Rt.tP ?_ | refine Rt.tD ?_ | refine Rt.tM ?_ | refine Rt.tC ?_ | refine Rt.tN ?_ | refine Rt.tA ?_ | refine Rt.tG ?_ | refine Rt.tF ?_ | refine Rt.os ?_ | refine Rt.clS ?_ | refine Rt.jmN ?_ | refine Rt.jbN ?_ | refine Rt.jbE ?_)) | ((with_reducible (first | apply Rt.ld0 | apply Rt.ld1 | apply Rt.ld2 | apply Rt.ld3 | apply Rt.ld4 | apply Rt.ld5)); first | assumption | exact Lc.kp (by assumption) (by assumption)) | ((with_reducible apply Rt.ol); first | assumption | exact cell_kp (by assumption) (by assumption)) | ((with_reducible apply Rt.ckR); focus ((repeat (first | (with_reducible (first | refine Rt.fin ?_ | refine Rt.tL ?_ | refine Rt.tI ?_ | refine Rt.tB ?_ | refine Rt.tS ?_ | refine Rt.tP ?_ | refine Rt.tD ?_ | refine Rt.tM ?_ | refine Rt.tC ?_ | refine Rt.tN ?_ | refine Rt.tA ?_ | refine Rt.tG ?_ | refine Rt.tF ?_ | refine Rt.os ?_ | refine Rt.clS ?_ | refine Rt.jmN ?_ | refine Rt.jbN ?_ | refine Rt.jbE ?_)) | ((with_reducible (first | apply Rt.ld0 | apply Rt.ld1 | apply Rt.ld2 | apply Rt.ld3 | apply Rt.ld4 | apply Rt.ld5)); first | assumption | exact Lc.kp (by assumption) (by assumption)) | ((with_reducible apply Rt.ol); first | assumption | exact cell_kp (by assumption) (by assumption)))); exact Rt.some' rfl))))
  refine Rt.al fun w2 l2 k2 s2 => ?_
  have hx : RS w2 w1.heap.size A c B l d 0 [] [] false 0 := ⟨none, 0, none, 0, l2, OwnX.nil _ _ _, Own.nil _ _, (fun z hz => by cases hz), fun j hj => by cases hj⟩
  have key := All_g0 (n := n) (c := c) hn ot.sl.2 (hb.kp k1) hl (Nat.le_refl _) h (by simp) (by omega) (n + 1) w2 [] (by omega) k2 hx (by simp) (by simp)
  refine Rt.of_eq (frame_All.g0_succ n n B l d ⟨w1.heap.size, 0, none⟩ 0 w2) (Rt.mono key ?_)
  rintro ⟨ex, vs, w3⟩ ⟨h1, R, rc, h2, h3, h4⟩
  dsimp only at h1 h2 h3 h4
  subst h1 h2
  rw [List.nil_append] at h3 ⊢
  exact .inr ⟨(fun h => by cases h), rfl, R, rc, w3, rfl, h3, k1.tr h4⟩
end
end Go.Proofs.YtebcmkohnebgmaaDoor.Fr
