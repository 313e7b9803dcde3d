/- Clock, the definition's cache: Put. -/
import Derived.Test.YtdnbpgakmbamoaaL9
namespace Go.Proofs.Ytdnbpgakmbamoaa.Ck
open Go Big Go.RowKit Go.IntWalk
set_option linter.unusedVariables false
set_option linter.unusedSimpArgs false
section
variable {α : Type} {Q : α → Prop} {n m base r cb : Nat} {w w' w0 : World} {S T S0 R : Nat → Prop} {A B : Option Addr} {l c d bl bd : Nat} {xs : List (List Value)} {s : Ca} {f p : Int} {N : Nat} {bs : List Int}
theorem put_same {x : Slo} {i : Nat} (hf : findI s.l f p = some i) (hx : s.l[i]? = some x) : putS n s f p bs = ({ s with l := s.l.set i { x with pins := x.pins + 1, mark := true } }, true) := by
  have eB : getB s f p = some x.b := by unfold getB; rw [hf]; simp [hx]
  have eS : getS s f p = { s with l := s.l.set i { x with pins := x.pins + 1, mark := true } } := by unfold getS; rw [hf]; dsimp only; rw [hx]
  unfold putS
  rw [eB, eS]; rfl
theorem getB_no (hf : findI s.l f p = none) : getB s f p = none := by unfold getB; rw [hf]; rfl
theorem RcA.push (h : RcA w S r s A c xs) {x : Slo} {A2 A5 A6 : Option Addr} {c5 c6 g5 : Nat} {w2 w3 w5 w6 : World} (hw5 : Kp w w5) (g6 : Gx (fun k => k = r) w5 w6) (o6 : OwnE rawEl 98 w5 w.heap.size (.slice A6 (s.l.length + 1) c6) (xs ++ [rawS A5 c5 x])) (b5 : Bv .u8 w5 A5 x.b.length c5 x.b) (l5 : ∀ j, On (.slice A5 x.b.length c5) j → w.heap.size ≤ j ∧ j < w5.heap.size ∧ ¬ On (.slice A6 (s.l.length + 1) c6) j) {u : Int} {room : Int} (hr : room = (if s.room < 2 ^ 62 then s.room else 2 ^ 62)) (l6 : Lc w6 r [.int .i64 room, .slice A6 (s.l.length + 1) c6, .int .i64 (s.hand : Int)]) :
    ∃ S', Rc w6 S' r { s with used := u, l := s.l ++ [x] } ∧ Gx S w w6 ∧ ∀ j, S' j → S j ∨ w.heap.size ≤ j := by
  have gR : Gx (fun k => k = r) w w6 := hw5.gx.tr g6
  have gS : Gx S w w6 := gR.wide fun k _ e => e ▸ h.sr
  have hrl := h.lt r h.sr
  have hO6 : ∀ j, On (.slice A6 (s.l.length + 1) c6) j → w.heap.size ≤ j ∧ j < w5.heap.size := fun j hj => o6.lt j hj
  have hxl := (raw_open h.row).1
  have hll : (s.l ++ [x]).length = s.l.length + 1 := by rw [List.length_append]; rfl
  have hz := g6.size
  refine ⟨fun j => S j ∨ On (.slice A6 (s.l.length + 1) c6) j ∨ On (.slice A5 x.b.length c5) j, ⟨A6, c6, xs ++ [rawS A5 c5 x], ⟨room, hr, by rw [hll]; exact l6⟩, ?_, ?_, ?_, .inl h.sr, ?_⟩, gS, fun j hj => hj.imp id fun hj => hj.elim (fun h => (hO6 j h).1) fun h => (l5 j h).1⟩
  · rw [hll]
    exact OwnE.gxR (o6.mono (Nat.zero_le _)) g6 fun j hj e => by have := (hO6 j hj).1; have e : j = r := e; omega
  · intro i y hy
    have hy : (s.l ++ [x])[i]? = some y := hy
    rw [hll]
    by_cases hi : i < s.l.length
    · rw [List.getElem?_append_left hi] at hy
      obtain ⟨B, d, e2, e3, e4⟩ := h.sl i y hy
      refine ⟨B, d, by rw [List.getElem?_append_left (by omega)]; exact e2, Bv.gx' e3 gR fun j hj e => (e4 j hj).2.1 e, fun j hj => ⟨.inl (e4 j hj).1, (e4 j hj).2.1, fun h' => ?_⟩⟩
      have := (hO6 j h').1
      have := h.lt j (e4 j hj).1
      omega
    · have hi2 := (List.getElem?_eq_some_iff.1 hy).1
      rw [hll] at hi2
      obtain rfl : i = s.l.length := by omega
      rw [List.getElem?_append_right (Nat.le_refl _), Nat.sub_self] at hy
      obtain rfl : x = y := Option.some.inj hy
      refine ⟨A5, c5, by rw [hxl, List.getElem?_append_right (Nat.le_refl _), Nat.sub_self]; rfl, Bv.gx' b5 g6 fun j hj e => by have := (l5 j hj).1; have e : j = r := e; omega, fun j hj => ⟨.inr (.inr hj), fun e => by have := (l5 j hj).1; omega, (l5 j hj).2.2⟩⟩
  · rw [hll]
    exact fun j hj => ⟨.inr (.inl hj), fun e => by have := (hO6 j hj).1; omega⟩
  · intro j hj
    have := gS.size
    rcases hj with h' | h' | h'
    · have := h.lt j h'; omega
    · have := (hO6 j h').2; omega
    · have := (l5 j h').2.1; omega
theorem RPut_spec (h : Rc w S r s) (ho : Ok N s) (hB : Stb S (fun w => Bv .u8 w B bl bd bs) w) (hbl : bl ≤ 2 ^ 20) (hn : 2 ^ 60 < n) : Rt (butteryref6_Cache_Put n [pt r, .int .i64 f, .int .i64 p, .slice B bl bd] w) fun y => ∃ w1 S1, y = ([.bool (putS n s f p bs).2], w1) ∧ Gx S w w1 ∧ (∀ j, S1 j → S j ∨ w.heap.size ≤ j) ∧ Rc w1 S1 r (putS n s f p bs).1 := by
  obtain ⟨ib, hTb⟩ := slB
  obtain ⟨ti, tz, hT⟩ := slRaw
  have hbl' := hB.out.len
  obtain ⟨A, c, xs, h⟩ := h
  have hrng := ho.rng
  have hbig := ho.big
  rw [butteryref6_Cache_Put_eq]
  obtain ⟨_, hr1, rfl⟩ := Rfind_spec (n := n) (f := f) (p := p) h (by omega) (by omega)
  refine Rt.fin (Rt.cl hr1 ?_)
  (repeat (first | (with_reducible (first | refine Rt.fin ?_ | refine Rt.tL ?_ | refine Rt.tI ?_ | refine Rt.tB ?_ | refine Rt.tS ?_ | refine Rt.tP ?_ | refine Rt.tD ?_ | refine Rt.tM ?_ | refine Rt.tC ?_ | refine Rt.tN ?_ | refine Rt.tA ?_ | refine Rt.tG ?_ | refine Rt.tF ?_ | refine Rt.os ?_ | refine Rt.clS ?_ | refine Rt.jmN ?_ | refine Rt.jbN ?_ | refine Rt.jbE ?_)) | ((with_reducible (first | apply Rt.ld0 | apply Rt.ld1 | apply Rt.ld2 | apply Rt.ld3 | apply Rt.ld4 | apply Rt.ld5)); first | assumption | exact Lc.kp (by assumption) (by assumption)) | ((with_reducible apply Rt.ol); first | assumption | exact cell_kp (by assumption) (by assumption)) | ((with_reducible apply Rt.ckR); focus ((repeat (first | (with_reducible (first | refine Rt.fin ?_ | refine Rt.tL ?_ | refine Rt.tI ?_ | refine Rt.tB ?_ | refine Rt.tS ?_ | refine Rt.tP ?_ | refine Rt.tD ?_ | refine Rt.tM ?_ | refine Rt.tC ?_ | refine Rt.tN ?_ | refine Rt.tA ?_ | refine Rt.tG ?_ | refine Rt.tF ?_ | refine Rt.os ?_ | refine Rt.clS ?_ | refine Rt.jmN ?_ | refine Rt.jbN ?_ | refine Rt.jbE ?_)) | ((with_reducible (first | apply Rt.ld0 | apply Rt.ld1 | apply Rt.ld2 | apply Rt.ld3 | apply Rt.ld4 | apply Rt.ld5)); first | assumption | exact Lc.kp (by assumption) (by assumption)) | ((with_reducible apply Rt.ol); first | assumption | exact cell_kp (by assumption) (by assumption)))); exact Rt.some' rfl))))
  cases hf : findI s.l f p with
  | some i =>
    obtain ⟨x, hx, _, _⟩ := findI_some hf
    have hxo := ho.slot x (List.mem_of_getElem? hx)
    rw [put_same hf hx]
    show Rt (cond (decide ((i : Int) ≥ 0)) _ _) _
    refine Rt.cDT (by omega) ?_
    obtain ⟨hi, _⟩ := List.getElem?_eq_some_iff.1 hx
    obtain ⟨room, _, hlc⟩ := h.lc
    (repeat (first | (with_reducible (first | refine Rt.fin ?_ | refine Rt.tL ?_ | refine Rt.tI ?_ | refine Rt.tB ?_ | refine Rt.tS ?_ | refine Rt.tP ?_ | refine Rt.tD ?_ | refine Rt.tM ?_ | refine Rt.tC ?_ | refine Rt.tN ?_ | refine Rt.tA ?_ | refine Rt.tG ?_ | refine Rt.tF ?_ | refine Rt.os ?_ | refine Rt.clS ?_ | refine Rt.jmN ?_ | refine Rt.jbN ?_ | refine Rt.jbE ?_)) | ((with_reducible (first | apply Rt.ld0 | apply Rt.ld1 | apply Rt.ld2 | apply Rt.ld3 | apply Rt.ld4 | apply Rt.ld5)); first | assumption | exact Lc.kp (by assumption) (by assumption)) | ((with_reducible apply Rt.ol); first | assumption | exact cell_kp (by assumption) (by assumption)) | ((with_reducible apply Rt.ckR); focus ((repeat (first | (with_reducible (first | refine Rt.fin ?_ | refine Rt.tL ?_ | refine Rt.tI ?_ | refine Rt.tB ?_ | refine Rt.tS ?_ | refine Rt.tP ?_ | refine Rt.tD ?_ | refine Rt.tM ?_ | refine Rt.tC ?_ | refine Rt.tN ?_ | refine Rt.tA ?_ | refine Rt.tG ?_ | refine Rt.tF ?_ | refine Rt.os ?_ | refine Rt.clS ?_ | refine Rt.jmN ?_ | refine Rt.jbN ?_ | refine Rt.jbE ?_)) | ((with_reducible (first | apply Rt.ld0 | apply Rt.ld1 | apply Rt.ld2 | apply Rt.ld3 | apply Rt.ld4 | apply Rt.ld5)); first | assumption | exact Lc.kp (by assumption) (by assumption)) | ((with_reducible apply Rt.ol); first | assumption | exact cell_kp (by assumption) (by assumption)))); exact Rt.some' rfl))))
    refine Rt.ixRc h hx fun a g B d hA ha e1 hb c0 c1 c2 c3 c4 => ?_
    (repeat (first | (with_reducible (first | refine Rt.fin ?_ | refine Rt.tL ?_ | refine Rt.tI ?_ | refine Rt.tB ?_ | refine Rt.tS ?_ | refine Rt.tP ?_ | refine Rt.tD ?_ | refine Rt.tM ?_ | refine Rt.tC ?_ | refine Rt.tN ?_ | refine Rt.tA ?_ | refine Rt.tG ?_ | refine Rt.tF ?_ | refine Rt.os ?_ | refine Rt.clS ?_ | refine Rt.jmN ?_ | refine Rt.jbN ?_ | refine Rt.jbE ?_)) | ((with_reducible (first | apply Rt.ld0 | apply Rt.ld1 | apply Rt.ld2 | apply Rt.ld3 | apply Rt.ld4 | apply Rt.ld5)); first | assumption | exact Lc.kp (by assumption) (by assumption)) | ((with_reducible apply Rt.ol); first | assumption | exact cell_kp (by assumption) (by assumption)) | ((with_reducible apply Rt.ckR); focus ((repeat (first | (with_reducible (first | refine Rt.fin ?_ | refine Rt.tL ?_ | refine Rt.tI ?_ | refine Rt.tB ?_ | refine Rt.tS ?_ | refine Rt.tP ?_ | refine Rt.tD ?_ | refine Rt.tM ?_ | refine Rt.tC ?_ | refine Rt.tN ?_ | refine Rt.tA ?_ | refine Rt.tG ?_ | refine Rt.tF ?_ | refine Rt.os ?_ | refine Rt.clS ?_ | refine Rt.jmN ?_ | refine Rt.jbN ?_ | refine Rt.jbE ?_)) | ((with_reducible (first | apply Rt.ld0 | apply Rt.ld1 | apply Rt.ld2 | apply Rt.ld3 | apply Rt.ld4 | apply Rt.ld5)); first | assumption | exact Lc.kp (by assumption) (by assumption)) | ((with_reducible apply Rt.ol); first | assumption | exact cell_kp (by assumption) (by assumption)))); exact Rt.some' rfl))))
    clear c0 c1 c2 c3 c4
    refine Rt.ixRc h hx fun a2 g2 B2 d2 hA2 ha2 e12 hb2 c0 c1 c2 c3 c4 => ?_
    subst ha2
    rw [i64_in _ (by omega)]
    refine Rt.stRaw h.row e12 hA2 (j := 3) (by decide) (v := .int .i64 (x.pins + 1)) rfl fun w1 o1 g1 => ?_
    clear c0 c1 c2 c3 c4
    have h1 := h.set (x' := { x with pins := x.pins + 1 }) hx e12 rfl hA2 o1 g1
    have hx1 : (s.l.set i { x with pins := x.pins + 1 })[i]? = some { x with pins := x.pins + 1 } := List.getElem?_set_self hi
    obtain ⟨room1, _, hlc1⟩ := h1.lc
    (repeat (first | (with_reducible (first | refine Rt.fin ?_ | refine Rt.tL ?_ | refine Rt.tI ?_ | refine Rt.tB ?_ | refine Rt.tS ?_ | refine Rt.tP ?_ | refine Rt.tD ?_ | refine Rt.tM ?_ | refine Rt.tC ?_ | refine Rt.tN ?_ | refine Rt.tA ?_ | refine Rt.tG ?_ | refine Rt.tF ?_ | refine Rt.os ?_ | refine Rt.clS ?_ | refine Rt.jmN ?_ | refine Rt.jbN ?_ | refine Rt.jbE ?_)) | ((with_reducible (first | apply Rt.ld0 | apply Rt.ld1 | apply Rt.ld2 | apply Rt.ld3 | apply Rt.ld4 | apply Rt.ld5)); first | assumption | exact Lc.kp (by assumption) (by assumption)) | ((with_reducible apply Rt.ol); first | assumption | exact cell_kp (by assumption) (by assumption)) | ((with_reducible apply Rt.ckR); focus ((repeat (first | (with_reducible (first | refine Rt.fin ?_ | refine Rt.tL ?_ | refine Rt.tI ?_ | refine Rt.tB ?_ | refine Rt.tS ?_ | refine Rt.tP ?_ | refine Rt.tD ?_ | refine Rt.tM ?_ | refine Rt.tC ?_ | refine Rt.tN ?_ | refine Rt.tA ?_ | refine Rt.tG ?_ | refine Rt.tF ?_ | refine Rt.os ?_ | refine Rt.clS ?_ | refine Rt.jmN ?_ | refine Rt.jbN ?_ | refine Rt.jbE ?_)) | ((with_reducible (first | apply Rt.ld0 | apply Rt.ld1 | apply Rt.ld2 | apply Rt.ld3 | apply Rt.ld4 | apply Rt.ld5)); first | assumption | exact Lc.kp (by assumption) (by assumption)) | ((with_reducible apply Rt.ol); first | assumption | exact cell_kp (by assumption) (by assumption)))); exact Rt.some' rfl))))
    refine Rt.ixRc h1 hx1 fun a3 g3 B3 d3 hA3 ha3 e13 hb3 c0 c1 c2 c3 c4 => ?_
    subst ha3
    refine Rt.stRaw h1.row e13 hA3 (j := 4) (by decide) (v := .bool true) rfl fun w2 o2 gx2 => ?_
    clear c0 c1 c2 c3 c4
    have h2 := h1.set (x' := { x with pins := x.pins + 1, mark := true }) hx1 e13 rfl hA3 o2 gx2
    have es : (s.l.set i { x with pins := x.pins + 1 }).set i { x with pins := x.pins + 1, mark := true } = s.l.set i { x with pins := x.pins + 1, mark := true } := by rw [List.set_set]
    dsimp only at h2
    rw [es] at h2
    have gS : Gx S w w2 := (g1.wide fun k _ e => by have e : k = g2 := e; rw [e]; exact (h.ro g2 (by subst hA2; rfl)).1).tr (gx2.wide fun k _ e => by have e : k = g3 := e; rw [e]; exact (h1.ro g3 (by subst hA3; rfl)).1)
    exact Rt.some' ⟨rfl, w2, S, rfl, gS, fun j hj => .inl hj, ⟨_, _, _, h2⟩⟩
  | none =>
    show Rt (cond (decide ((-1 : Int) ≥ 0)) _ _) _
    refine Rt.cDF (by decide) ?_
    have hfu : fuelM s.l.length (2 * s.l.length) < n + 1 := by
      unfold fuelM
      have : s.l.length * (2 * s.l.length + 1) ≤ 2 ^ 20 * (2 * 2 ^ 20 + 1) := Nat.mul_le_mul (by omega) (by omega)
      omega
    refine Rt.jb (Rt.mono (RPut_l0 (n := n) (f := f) (p := p) (B := B) (bd := bd) hn hbl (s.l.length + 1) n (n + 1) w s S (by omega) (by omega) ⟨_, _, _, h⟩ ho (Gx.rfl' _ _) (fun j hj => .inl hj) hfu) ?_)
    have eF : freeF (n + 1) s (bl : Int) (2 * s.l.length) = freeS n s bs.length := by rw [hbl']; rfl
    rw [eF]
    have hfo : Ok N (freeS n s bs.length).1 := freeF_ok _ _ _ ho
    rintro _ ⟨w1, S1, ⟨hb, rfl⟩ | ⟨hb, rfl⟩, g1, hs1, h1⟩
    · refine .inl ⟨.inr rfl, ?_⟩
      have ep : putS n s f p bs = ({ (freeS n s bs.length).1 with used := (freeS n s bs.length).1.used + bs.length, l := (freeS n s bs.length).1.l ++ [⟨f, p, bs, 1, true⟩] }, true) := by unfold putS; rw [getB_no hf, if_neg (by simp), if_pos hb]
      rw [ep]
      generalize (freeS n s bs.length).1 = s1 at *
      have hrng1 := hfo.rng
      obtain ⟨A1, c1, xs1, h1⟩ := h1
      obtain ⟨room1, hroom1, hlc1⟩ := h1.lc
      have hxl := (raw_open h1.row).1
      have hev := h1.row.ev
      have hB1 := hB w1 g1
      (repeat (first | (with_reducible (first | refine Rt.fin ?_ | refine Rt.tL ?_ | refine Rt.tI ?_ | refine Rt.tB ?_ | refine Rt.tS ?_ | refine Rt.tP ?_ | refine Rt.tD ?_ | refine Rt.tM ?_ | refine Rt.tC ?_ | refine Rt.tN ?_ | refine Rt.tA ?_ | refine Rt.tG ?_ | refine Rt.tF ?_ | refine Rt.os ?_ | refine Rt.clS ?_ | refine Rt.jmN ?_ | refine Rt.jbN ?_ | refine Rt.jbE ?_)) | ((with_reducible (first | apply Rt.ld0 | apply Rt.ld1 | apply Rt.ld2 | apply Rt.ld3 | apply Rt.ld4 | apply Rt.ld5)); first | assumption | exact Lc.kp (by assumption) (by assumption)) | ((with_reducible apply Rt.ol); first | assumption | exact cell_kp (by assumption) (by assumption)) | ((with_reducible apply Rt.ckR); focus ((repeat (first | (with_reducible (first | refine Rt.fin ?_ | refine Rt.tL ?_ | refine Rt.tI ?_ | refine Rt.tB ?_ | refine Rt.tS ?_ | refine Rt.tP ?_ | refine Rt.tD ?_ | refine Rt.tM ?_ | refine Rt.tC ?_ | refine Rt.tN ?_ | refine Rt.tA ?_ | refine Rt.tG ?_ | refine Rt.tF ?_ | refine Rt.os ?_ | refine Rt.clS ?_ | refine Rt.jmN ?_ | refine Rt.jbN ?_ | refine Rt.jbE ?_)) | ((with_reducible (first | apply Rt.ld0 | apply Rt.ld1 | apply Rt.ld2 | apply Rt.ld3 | apply Rt.ld4 | apply Rt.ld5)); first | assumption | exact Lc.kp (by assumption) (by assumption)) | ((with_reducible apply Rt.ol); first | assumption | exact cell_kp (by assumption) (by assumption)))); exact Rt.some' rfl))))
      refine Rt.appS rfl hT (OwnE.nil w1 w1.heap.size) hev.sl hev.nil (Kp.rfl' w1) (Nat.le_refl _) (by simp; omega) (Nat.le_refl _) fun A2 c2 w2 o2 k2 s2 => ?_
      have kk2 := k2 w1 (Kp.rfl' _) (Nat.le_refl _)
      rw [List.length_nil, Nat.zero_add, List.nil_append] at o2
      (repeat (first | (with_reducible (first | refine Rt.fin ?_ | refine Rt.tL ?_ | refine Rt.tI ?_ | refine Rt.tB ?_ | refine Rt.tS ?_ | refine Rt.tP ?_ | refine Rt.tD ?_ | refine Rt.tM ?_ | refine Rt.tC ?_ | refine Rt.tN ?_ | refine Rt.tA ?_ | refine Rt.tG ?_ | refine Rt.tF ?_ | refine Rt.os ?_ | refine Rt.clS ?_ | refine Rt.jmN ?_ | refine Rt.jbN ?_ | refine Rt.jbE ?_)) | ((with_reducible (first | apply Rt.ld0 | apply Rt.ld1 | apply Rt.ld2 | apply Rt.ld3 | apply Rt.ld4 | apply Rt.ld5)); first | assumption | exact Lc.kp (by assumption) (by assumption)) | ((with_reducible apply Rt.ol); first | assumption | exact cell_kp (by assumption) (by assumption)) | ((with_reducible apply Rt.ckR); focus ((repeat (first | (with_reducible (first | refine Rt.fin ?_ | refine Rt.tL ?_ | refine Rt.tI ?_ | refine Rt.tB ?_ | refine Rt.tS ?_ | refine Rt.tP ?_ | refine Rt.tD ?_ | refine Rt.tM ?_ | refine Rt.tC ?_ | refine Rt.tN ?_ | refine Rt.tA ?_ | refine Rt.tG ?_ | refine Rt.tF ?_ | refine Rt.os ?_ | refine Rt.clS ?_ | refine Rt.jmN ?_ | refine Rt.jbN ?_ | refine Rt.jbE ?_)) | ((with_reducible (first | apply Rt.ld0 | apply Rt.ld1 | apply Rt.ld2 | apply Rt.ld3 | apply Rt.ld4 | apply Rt.ld5)); first | assumption | exact Lc.kp (by assumption) (by assumption)) | ((with_reducible apply Rt.ol); first | assumption | exact cell_kp (by assumption) (by assumption)))); exact Rt.some' rfl))))
      have hB2 := hB1.kp kk2
      refine Rt.app0 hTb hB2.sl hB2.nil (by omega) fun A5 c5 w3 o5 k5 => ?_
      have k13 := kk2.tr k5
      (repeat (first | (with_reducible (first | refine Rt.fin ?_ | refine Rt.tL ?_ | refine Rt.tI ?_ | refine Rt.tB ?_ | refine Rt.tS ?_ | refine Rt.tP ?_ | refine Rt.tD ?_ | refine Rt.tM ?_ | refine Rt.tC ?_ | refine Rt.tN ?_ | refine Rt.tA ?_ | refine Rt.tG ?_ | refine Rt.tF ?_ | refine Rt.os ?_ | refine Rt.clS ?_ | refine Rt.jmN ?_ | refine Rt.jbN ?_ | refine Rt.jbE ?_)) | ((with_reducible (first | apply Rt.ld0 | apply Rt.ld1 | apply Rt.ld2 | apply Rt.ld3 | apply Rt.ld4 | apply Rt.ld5)); first | assumption | exact Lc.kp (by assumption) (by assumption)) | ((with_reducible apply Rt.ol); first | assumption | exact cell_kp (by assumption) (by assumption)) | ((with_reducible apply Rt.ckR); focus ((repeat (first | (with_reducible (first | refine Rt.fin ?_ | refine Rt.tL ?_ | refine Rt.tI ?_ | refine Rt.tB ?_ | refine Rt.tS ?_ | refine Rt.tP ?_ | refine Rt.tD ?_ | refine Rt.tM ?_ | refine Rt.tC ?_ | refine Rt.tN ?_ | refine Rt.tA ?_ | refine Rt.tG ?_ | refine Rt.tF ?_ | refine Rt.os ?_ | refine Rt.clS ?_ | refine Rt.jmN ?_ | refine Rt.jbN ?_ | refine Rt.jbE ?_)) | ((with_reducible (first | apply Rt.ld0 | apply Rt.ld1 | apply Rt.ld2 | apply Rt.ld3 | apply Rt.ld4 | apply Rt.ld5)); first | assumption | exact Lc.kp (by assumption) (by assumption)) | ((with_reducible apply Rt.ol); first | assumption | exact cell_kp (by assumption) (by assumption)))); exact Rt.some' rfl))))
      have o23 := o2.kp k5
      have ho5 := o5.lt
      have ho2 := o2.lt
      have e2 : ([] : List (List Value)).length + s1.l.length = s1.l.length := by simp
      rw [e2]
      refine Rt.app1f (E := rawEl) (x := [.int .i64 f, .int .i64 p, .slice A5 bl c5, .int .i64 1, .bool true]) (us := [.int .i64 f, .int .i64 p, .slice A5 bl c5, .int .i64 1, .bool true]) rfl hT o23 rfl (fun _ _ => ⟨rfl, rfl, fun u hu => by simp at hu; rcases hu with rfl | rfl | rfl | rfl | rfl <;> rfl⟩) (by omega) (by have := kk2.size; have := k5.size; omega) fun A6 c6 w5 o6 g6 on6 _ => ?_
      have hlc3 := hlc1.kp k13
      rw [← hxl] at o6 on6
      rw [← hxl]
      have k35 : Kp w1 w5 := k13.tx g6 fun j hj => (ho2 j hj).1
      have hlc5 := hlc1.kp k35
      (repeat (first | (with_reducible (first | refine Rt.fin ?_ | refine Rt.tL ?_ | refine Rt.tI ?_ | refine Rt.tB ?_ | refine Rt.tS ?_ | refine Rt.tP ?_ | refine Rt.tD ?_ | refine Rt.tM ?_ | refine Rt.tC ?_ | refine Rt.tN ?_ | refine Rt.tA ?_ | refine Rt.tG ?_ | refine Rt.tF ?_ | refine Rt.os ?_ | refine Rt.clS ?_ | refine Rt.jmN ?_ | refine Rt.jbN ?_ | refine Rt.jbE ?_)) | ((with_reducible (first | apply Rt.ld0 | apply Rt.ld1 | apply Rt.ld2 | apply Rt.ld3 | apply Rt.ld4 | apply Rt.ld5)); first | assumption | exact Lc.kp (by assumption) (by assumption)) | ((with_reducible apply Rt.ol); first | assumption | exact cell_kp (by assumption) (by assumption)) | ((with_reducible apply Rt.ckR); focus ((repeat (first | (with_reducible (first | refine Rt.fin ?_ | refine Rt.tL ?_ | refine Rt.tI ?_ | refine Rt.tB ?_ | refine Rt.tS ?_ | refine Rt.tP ?_ | refine Rt.tD ?_ | refine Rt.tM ?_ | refine Rt.tC ?_ | refine Rt.tN ?_ | refine Rt.tA ?_ | refine Rt.tG ?_ | refine Rt.tF ?_ | refine Rt.os ?_ | refine Rt.clS ?_ | refine Rt.jmN ?_ | refine Rt.jbN ?_ | refine Rt.jbE ?_)) | ((with_reducible (first | apply Rt.ld0 | apply Rt.ld1 | apply Rt.ld2 | apply Rt.ld3 | apply Rt.ld4 | apply Rt.ld5)); first | assumption | exact Lc.kp (by assumption) (by assumption)) | ((with_reducible apply Rt.ol); first | assumption | exact cell_kp (by assumption) (by assumption)))); exact Rt.some' rfl))))
      refine Rt.st1 hlc5 fun w6 l6 g56 => ?_
      have k23 := k5.size
      have z12 := kk2.size
      have zg6 := g6.size
      have e5 : bs.length = bl := hbl'
      obtain ⟨S', q1, q2, q3⟩ := h1.push (x := ⟨f, p, bs, 1, true⟩) (A2 := A2) (A5 := A5) (A6 := A6) (c5 := c5) (c6 := c6) (g5 := 0) (w2 := w2) (w3 := w3) (w5 := w5) (w6 := w6) k35 g56 (by
          have : rawS A5 c5 ⟨f, p, bs, 1, true⟩ = [.int .i64 f, .int .i64 p, .slice A5 bl c5, .int .i64 1, .bool true] := by rw [← e5]
          rw [this]; exact o6)
        (by
          have o5' := o5.gx g6 fun j hj hj2 => by have := (ho5 j hj).1; have := (ho2 j hj2).2; omega
          have := o5'.bv hB1.rng
          show Bv .u8 w5 A5 bs.length c5 bs
          rw [e5]; exact this)
        (fun j hj => by
          have hj : On (.slice A5 bl c5) j := by have hj : On (.slice A5 bs.length c5) j := hj; rw [e5] at hj; exact hj
          have h5 := ho5 j hj
          refine ⟨by omega, by omega, fun h' => ?_⟩
          rcases on6 j h' with e | e
          · have := (ho2 j e).2; omega
          · omega)
        (u := s1.used + (bs.length : Int)) hroom1 l6
      have hz1 := g1.size
      exact Rt.some' ⟨rfl, w6, S', rfl, g1.tr' q2 fun k hk hk1 => (hs1 k hk1).elim id fun e => by omega, fun j hj => (q3 j hj).elim (hs1 j) fun e => .inr (by omega), q1⟩
    · refine .inr ⟨rfl, ?_⟩
      have ep : putS n s f p bs = ((freeS n s bs.length).1, false) := by unfold putS; rw [getB_no hf, if_neg (by simp), if_neg (by rw [hb]; simp)]
      rw [ep]
      exact ⟨rfl, w1, S1, rfl, g1, hs1, h1⟩
end
end Go.Proofs.Ytdnbpgakmbamoaa.Ck
