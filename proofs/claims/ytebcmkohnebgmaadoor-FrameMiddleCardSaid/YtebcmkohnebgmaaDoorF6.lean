/- Frames: the whole of a log is read by the reference. -/
import Derived.Test.YtebcmkohnebgmaaDoorF5
namespace Go.Proofs.YtebcmkohnebgmaaDoor.Fr
open Go Big Go.RowKit Go.IntWalk Crc
set_option linter.unusedVariables false
set_option linter.unusedSimpArgs false
section
variable {α : Type} {Q : Res → Prop} {n m : Nat} {w w' w0 w1 : World} {A B C : Option Addr} {l c d base lo co at_ p tk : Nat} {k : Int} {x r out o zs s now : List Int} {rs acc : List (List Int)} {wi : Bool}
theorem zeros_l0 (hb : Bv .u8 w A l c zs) (hl : l ≤ 2 ^ 38) : ∀ (q i j : Nat), i + q = l → q < j →
    Rt (butteryref6_zeros.l0 n j A l c (i : Int) w) fun r => r.w = w ∧ (r.ex = .exit 0 ∧ r.vals = [] ∧ (∀ z ∈ zs.drop i, z = 0) ∨ r.ex = .ret ∧ r.vals = [.bool false] ∧ ¬ ∀ z ∈ zs.drop i, z = 0) := by
  have hzl := hb.len
  intro q
  induction q with
  | zero =>
    intro i j hi hj
    obtain ⟨j, rfl⟩ : ∃ j', j = j' + 1 := ⟨j - 1, by omega⟩
    rw [butteryref6_zeros.l0_succ]
    exact Rt.cDF (by omega) (Rt.some' ⟨rfl, .inl ⟨rfl, rfl, by rw [List.drop_of_length_le (by omega)]; simp⟩⟩)
  | succ q ih =>
    intro i j hi hj
    obtain ⟨j, rfl⟩ : ∃ j', j = j' + 1 := ⟨j - 1, by omega⟩
    rw [butteryref6_zeros.l0_succ]
    have hd : zs.drop i = zs.getD i 0 :: zs.drop (i + 1) := by
      rw [List.drop_eq_getElem_cons (by omega), List.getD_eq_getElem?_getD, List.getElem?_eq_getElem (by omega)]; rfl
    refine Rt.cDT (by omega) (Rt.ix hb.sl (by omega) (by omega) ?_)
    rw [Int.toNat_natCast]
    refine Rt.cN (fun h => ?_) fun h => ?_
    · rw [i64_in _ (by omega), show ((i : Int) + 1) = ((i + 1 : Nat) : Int) by omega]
      refine Rt.mono (ih (i + 1) j (by omega) (by omega)) ?_
      rintro r ⟨h1, ⟨h2, h3, h4⟩ | ⟨h2, h3, h4⟩⟩
      · exact ⟨h1, .inl ⟨h2, h3, by rw [hd, List.forall_mem_cons]; exact ⟨h, h4⟩⟩⟩
      · exact ⟨h1, .inr ⟨h2, h3, by rw [hd, List.forall_mem_cons]; exact fun hh => h4 hh.2⟩⟩
    · exact Rt.some' ⟨rfl, .inr ⟨rfl, rfl, by rw [hd, List.forall_mem_cons]; exact fun hh => h hh.1⟩⟩
theorem zeros_spec (hn : 2 ^ 50 < n) (hb : Bv .u8 w A l c zs) (hl : l ≤ 2 ^ 38) : Rt (butteryref6_zeros n [.slice A l c] w) (RB (∀ z ∈ zs, z = 0) w) := by
  rw [butteryref6_zeros_eq]
  have := zeros_l0 (n := n) hb hl l 0 n (by omega) (by omega)
  rw [List.drop_zero] at this
  refine Rt.fin (Rt.jb (Rt.mono this ?_))
  rintro ⟨ex, vs, w1⟩ ⟨h1, ⟨h2, h3, h4⟩ | ⟨h2, h3, h4⟩⟩
  · dsimp only at h1 h2 h3; subst h1 h2 h3
    refine .inl ⟨.inr rfl, ?_⟩
    (repeat (first | (with_reducible (first | refine Rt.fin ?_ | refine Rt.tL ?_ | refine Rt.tI ?_ | refine Rt.tB ?_ | refine Rt.tS ?_ | refine Rt.tP ?_ | refine Rt.tD ?_ | refine Rt.tM ?_ | refine Rt.tC ?_ | refine Rt.tN ?_ | refine Rt.tA ?_ | refine Rt.tG ?_ | refine Rt.tF ?_ | refine Rt.os ?_ | refine Rt.clS ?_ | refine Rt.jmN ?_ | refine Rt.jbN ?_ | refine Rt.jbE ?_)) | ((with_reducible (first | apply Rt.ld0 | apply Rt.ld1 | apply Rt.ld2 | apply Rt.ld3 | apply Rt.ld4 | apply Rt.ld5)); first | assumption | exact Lc.kp (by assumption) (by assumption)) | ((with_reducible apply Rt.ol); first | assumption | exact cell_kp (by assumption) (by assumption)) | ((with_reducible apply Rt.ckR); focus ((repeat (first | (with_reducible (first | refine Rt.fin ?_ | refine Rt.tL ?_ | refine Rt.tI ?_ | refine Rt.tB ?_ | refine Rt.tS ?_ | refine Rt.tP ?_ | refine Rt.tD ?_ | refine Rt.tM ?_ | refine Rt.tC ?_ | refine Rt.tN ?_ | refine Rt.tA ?_ | refine Rt.tG ?_ | refine Rt.tF ?_ | refine Rt.os ?_ | refine Rt.clS ?_ | refine Rt.jmN ?_ | refine Rt.jbN ?_ | refine Rt.jbE ?_)) | ((with_reducible (first | apply Rt.ld0 | apply Rt.ld1 | apply Rt.ld2 | apply Rt.ld3 | apply Rt.ld4 | apply Rt.ld5)); first | assumption | exact Lc.kp (by assumption) (by assumption)) | ((with_reducible apply Rt.ol); first | assumption | exact cell_kp (by assumption) (by assumption)))); exact Rt.some' rfl))))
    exact Rt.endB (by simpa using h4) (Kp.rfl' _)
  · dsimp only at h1 h2 h3; subst h1 h2 h3
    exact .inr ⟨rfl, rfl, false, _, rfl, by simpa using h4, Kp.rfl' _⟩
/-- The reference's rows. -/
structure RR (w : World) (base : Nat) (R : Option Addr) (rc : Nat) (rs : List (List Int)) (N : Option Addr) (nc : Nat) (now : List Int) : Prop where
  ro : OwnX (On (.slice N now.length nc)) byEl 22 w base (.slice R rs.length rc) rs
  re : Own .u8 5 w base (.slice N now.length nc) now
  by_ : Bytes now
  ne : ∀ j, On (.slice N now.length nc) j → ¬ On (.slice R rs.length rc) j
theorem RR.kp {R N : Option Addr} {rc nc : Nat} (h : RR w base R rc rs N nc now) (hk : Kp w w') : RR w' base R rc rs N nc now :=
  ⟨h.ro.kp hk, h.re.kp hk, h.by_, h.ne⟩
theorem head7 {a b c d e f g : Int} (ra : Bytes [a, b, c, d]) (re : Bytes [e, f]) {x : List Int} (hx : (x.length : Int) = le [e, f]) : [a, b, c, d, e, f, g] = (pc sm g x).take 7 ↔ le [a, b, c, d] = sm (g :: x) := by
  obtain ⟨b0, b1, b2, b3, b4, b5, e1, e2, e3⟩ := pc_cons (sm := sm) g x
  have h2 : [e, f] = [b4, b5] := by
    rw [← e2, hx]
    exact (lowB_le (xs := [e, f]) re).symm
  injection h2 with h2 h3
  injection h3 with h3
  rw [e3]
  show [a, b, c, d, e, f, g] = [b0, b1, b2, b3, b4, b5, g] ↔ _
  constructor
  · intro h
    simp only [List.cons.injEq] at h
    obtain ⟨rfl, rfl, rfl, rfl, _⟩ := h
    rw [← e1, le_lowB 4 (hsm _).1 (hsm _).2]
  · intro h
    have : [a, b, c, d] = [b0, b1, b2, b3] := by
      rw [← e1, ← h]
      exact (lowB_le (xs := [a, b, c, d]) ra).symm
    simp only [List.cons.injEq, and_true] at this
    obtain ⟨rfl, rfl, rfl, rfl⟩ := this
    rw [h2, h3]
theorem RAll_tail {w2 : World} {R N E : Option Addr} {rc nc le_ de u : Nat} {g : Int} {bd : List Int} (hk2 : Kp w0 w2) (hs2 : RR w2 w0.heap.size R rc acc N nc now) (bE : Bv .u8 w0 E le_ de bd) (hl1 : now.length + le_ ≤ 2 ^ 36) (hl2 : acc.length ≤ 2 ^ 35) (hl3 : (1 : Nat) = 1)
    (hgo : ∀ w' R' rc' N' nc', Kp w0 w' → RR w' w0.heap.size R' rc' (after at_ acc now bd u (decide (g = 2 ∨ g = 3)) tk).1 N' nc' (after at_ acc now bd u (decide (g = 2 ∨ g = 3)) tk).2.1 →
      Rt (butteryref6_All.l0 n m B l d R' (after at_ acc now bd u (decide (g = 2 ∨ g = 3)) tk).1.length rc' N' (after at_ acc now bd u (decide (g = 2 ∨ g = 3)) tk).2.1.length nc' (decide (g = 2 ∨ g = 3)) ((at_ + u : Nat) : Int) ((after at_ acc now bd u (decide (g = 2 ∨ g = 3)) tk).2.2 : Int) w') Q) :
    Rt (rn Tryd.prog (Builtin.append_ #[22, 22] 22 #[.slice N now.length nc, .slice E le_ de]) w2 fun v102 w103 => tL v102 fun A99 l100 c101 => jm (cond (g == 2) (some ⟨.norm, [.slice B l d, .slice R acc.length rc, .slice A99 l100 c101, .bool true, .int .i64 ((at_ + u : Nat) : Int), .int .i64 (tk : Int)], w103⟩) (some ⟨.norm, [.slice B l d, .slice R acc.length rc, .slice A99 l100 c101, .bool (g == 3), .int .i64 ((at_ + u : Nat) : Int), .int .i64 (tk : Int)], w103⟩)) fun vs104 w105 => tC vs104 fun v106 cs107 => tL v106 fun A108 l109 c110 => tC cs107 fun v111 cs112 => tL v111 fun A113 l114 c115 => tC cs112 fun v116 cs117 => tL v116 fun A118 l119 c120 => tC cs117 fun v121 cs122 => tB v121 fun b123 => tC cs122 fun v124 cs125 => tI .i64 v124 fun n126 => tC cs125 fun v127 cs128 => tI .i64 v127 fun n129 => tN cs128 (cond (!b123) (rn Tryd.prog (Builtin.append_ #[22, 22] 22 #[.slice none 0 0, .slice A118 l119 c120]) w105 fun v133 w134 => tL v133 fun A130 l131 c132 => al w134 #[.slice A130 l131 c132] 22 fun w135 => rn Tryd.prog (Builtin.append_ #[26, 26] 26 #[.slice A113 l114 c115, .slice (some ⟨w134.heap.size, 0, none⟩) 1 1]) w135 fun v139 w140 => tL v139 fun A136 l137 c138 => butteryref6_All.l0 n m A108 l109 c110 A136 l137 c138 none 0 0 b123 n126 n126 w140) (butteryref6_All.l0 n m A108 l109 c110 A113 l114 c115 A118 l119 c120 b123 n126 n129 w105))) Q := by
  obtain ⟨ib, hTb⟩ := slB
  obtain ⟨iL, zL, hTL⟩ := slL
  have hsz : w0.heap.size ≤ w2.heap.size := hk2.size
  refine Rt.appO hTb hs2.re (bE.kp hk2).sl bE.nil (by omega) hsz fun N2 nc2 w3 o3 hN2 g3 => ?_
  (repeat (first | (with_reducible (first | refine Rt.fin ?_ | refine Rt.tL ?_ | refine Rt.tI ?_ | refine Rt.tB ?_ | refine Rt.tS ?_ | refine Rt.tP ?_ | refine Rt.tD ?_ | refine Rt.tM ?_ | refine Rt.tC ?_ | refine Rt.tN ?_ | refine Rt.tA ?_ | refine Rt.tG ?_ | refine Rt.tF ?_ | refine Rt.os ?_ | refine Rt.clS ?_ | refine Rt.jmN ?_ | refine Rt.jbN ?_ | refine Rt.jbE ?_)) | ((with_reducible (first | apply Rt.ld0 | apply Rt.ld1 | apply Rt.ld2 | apply Rt.ld3 | apply Rt.ld4 | apply Rt.ld5)); first | assumption | exact Lc.kp (by assumption) (by assumption)) | ((with_reducible apply Rt.ol); first | assumption | exact cell_kp (by assumption) (by assumption)) | ((with_reducible apply Rt.ckR); focus ((repeat (first | (with_reducible (first | refine Rt.fin ?_ | refine Rt.tL ?_ | refine Rt.tI ?_ | refine Rt.tB ?_ | refine Rt.tS ?_ | refine Rt.tP ?_ | refine Rt.tD ?_ | refine Rt.tM ?_ | refine Rt.tC ?_ | refine Rt.tN ?_ | refine Rt.tA ?_ | refine Rt.tG ?_ | refine Rt.tF ?_ | refine Rt.os ?_ | refine Rt.clS ?_ | refine Rt.jmN ?_ | refine Rt.jbN ?_ | refine Rt.jbE ?_)) | ((with_reducible (first | apply Rt.ld0 | apply Rt.ld1 | apply Rt.ld2 | apply Rt.ld3 | apply Rt.ld4 | apply Rt.ld5)); first | assumption | exact Lc.kp (by assumption) (by assumption)) | ((with_reducible apply Rt.ol); first | assumption | exact cell_kp (by assumption) (by assumption)))); exact Rt.some' rfl))))
  have hlt := o3.sl.1
  rw [hlt] at o3 hN2 ⊢
  have g3' : Gx (On (.slice N now.length nc)) w2 w3 := g3
  have k3 : Kp w0 w3 := hk2.tx g3 fun j hj => (hs2.re.lt j hj).1
  have ro3 := ((OwnX_less' hs2.ro (S' := fun j => On (.slice N2 (now ++ bd).length nc2) j ∨ On (.slice N now.length nc) j) (fun j hj hS => by
    rcases hS with hS | hS
    · rcases hN2 j hS with h | h
      · exact .inl h
      · omega
    · exact .inl hS)).gx g3 (fun j _ hj => .inr hj) hs2.ne).less (S' := On (.slice N2 (now ++ bd).length nc2)) fun j hj => .inl hj
  have ne3 : ∀ j, On (.slice N2 (now ++ bd).length nc2) j → ¬ On (.slice R acc.length rc) j := fun j hj hr => by
    rcases hN2 j hj with h | h
    · exact hs2.ne j h hr
    · have := (hs2.ro.lt j hr).2; omega
  have by3 : Bytes (now ++ bd) := fun z hz => by
    rcases List.mem_append.1 hz with h | h
    · exact hs2.by_ z h
    · exact bE.rng z h
  have hlx : (now ++ bd).length ≤ 2 ^ 36 := by have := bE.len; rw [List.length_append]; omega
  refine Rt.jm (Rt.mono (Q' := fun r => r = ⟨.norm, [.slice B l d, .slice R acc.length rc, .slice N2 (now ++ bd).length nc2, .bool (decide (g = 2 ∨ g = 3)), .int .i64 ((at_ + u : Nat) : Int), .int .i64 (tk : Int)], w3⟩) ?_ ?_)
  · refine Rt.cQ (fun h => Rt.some' ?_) fun h => Rt.some' ?_
    · rw [decide_eq_true (.inl h)]
    · have : decide (g = 2 ∨ g = 3) = (g == 3) := by rw [Bool.eq_iff_iff]; simp [h]
      rw [this]
  rintro _ rfl
  refine ⟨rfl, ?_⟩
  dsimp only
  (repeat (first | (with_reducible (first | refine Rt.fin ?_ | refine Rt.tL ?_ | refine Rt.tI ?_ | refine Rt.tB ?_ | refine Rt.tS ?_ | refine Rt.tP ?_ | refine Rt.tD ?_ | refine Rt.tM ?_ | refine Rt.tC ?_ | refine Rt.tN ?_ | refine Rt.tA ?_ | refine Rt.tG ?_ | refine Rt.tF ?_ | refine Rt.os ?_ | refine Rt.clS ?_ | refine Rt.jmN ?_ | refine Rt.jbN ?_ | refine Rt.jbE ?_)) | ((with_reducible (first | apply Rt.ld0 | apply Rt.ld1 | apply Rt.ld2 | apply Rt.ld3 | apply Rt.ld4 | apply Rt.ld5)); first | assumption | exact Lc.kp (by assumption) (by assumption)) | ((with_reducible apply Rt.ol); first | assumption | exact cell_kp (by assumption) (by assumption)) | ((with_reducible apply Rt.ckR); focus ((repeat (first | (with_reducible (first | refine Rt.fin ?_ | refine Rt.tL ?_ | refine Rt.tI ?_ | refine Rt.tB ?_ | refine Rt.tS ?_ | refine Rt.tP ?_ | refine Rt.tD ?_ | refine Rt.tM ?_ | refine Rt.tC ?_ | refine Rt.tN ?_ | refine Rt.tA ?_ | refine Rt.tG ?_ | refine Rt.tF ?_ | refine Rt.os ?_ | refine Rt.clS ?_ | refine Rt.jmN ?_ | refine Rt.jbN ?_ | refine Rt.jbE ?_)) | ((with_reducible (first | apply Rt.ld0 | apply Rt.ld1 | apply Rt.ld2 | apply Rt.ld3 | apply Rt.ld4 | apply Rt.ld5)); first | assumption | exact Lc.kp (by assumption) (by assumption)) | ((with_reducible apply Rt.ol); first | assumption | exact cell_kp (by assumption) (by assumption)))); exact Rt.some' rfl))))
  generalize decide (g = 2 ∨ g = 3) = mm at hgo ⊢
  cases mm with
  | true => exact Rt.cF rfl (hgo w3 R rc N2 nc2 k3 ⟨ro3, o3, by3, ne3⟩)
  | false =>
    refine Rt.cT rfl ?_
    refine Rt.app0 hTb o3.sl.2 (o3.bv by3).nil (by omega) fun D4 e4 w4 o4 k4 => ?_
    (repeat (first | (with_reducible (first | refine Rt.fin ?_ | refine Rt.tL ?_ | refine Rt.tI ?_ | refine Rt.tB ?_ | refine Rt.tS ?_ | refine Rt.tP ?_ | refine Rt.tD ?_ | refine Rt.tM ?_ | refine Rt.tC ?_ | refine Rt.tN ?_ | refine Rt.tA ?_ | refine Rt.tG ?_ | refine Rt.tF ?_ | refine Rt.os ?_ | refine Rt.clS ?_ | refine Rt.jmN ?_ | refine Rt.jbN ?_ | refine Rt.jbE ?_)) | ((with_reducible (first | apply Rt.ld0 | apply Rt.ld1 | apply Rt.ld2 | apply Rt.ld3 | apply Rt.ld4 | apply Rt.ld5)); first | assumption | exact Lc.kp (by assumption) (by assumption)) | ((with_reducible apply Rt.ol); first | assumption | exact cell_kp (by assumption) (by assumption)) | ((with_reducible apply Rt.ckR); focus ((repeat (first | (with_reducible (first | refine Rt.fin ?_ | refine Rt.tL ?_ | refine Rt.tI ?_ | refine Rt.tB ?_ | refine Rt.tS ?_ | refine Rt.tP ?_ | refine Rt.tD ?_ | refine Rt.tM ?_ | refine Rt.tC ?_ | refine Rt.tN ?_ | refine Rt.tA ?_ | refine Rt.tG ?_ | refine Rt.tF ?_ | refine Rt.os ?_ | refine Rt.clS ?_ | refine Rt.jmN ?_ | refine Rt.jbN ?_ | refine Rt.jbE ?_)) | ((with_reducible (first | apply Rt.ld0 | apply Rt.ld1 | apply Rt.ld2 | apply Rt.ld3 | apply Rt.ld4 | apply Rt.ld5)); first | assumption | exact Lc.kp (by assumption) (by assumption)) | ((with_reducible apply Rt.ol); first | assumption | exact cell_kp (by assumption) (by assumption)))); exact Rt.some' rfl))))
    have ro4 := (ro3.kp k4).less (S' := fun _ => False) fun j hj => hj.elim
    have hR4 : ∀ j, On (.slice R acc.length rc) j → j < w3.heap.size := fun j hj => (ro3.lt j hj).2
    refine Rt.app1X (x := now ++ bd) rfl hTL ro4 rfl (fun w5 hg => ⟨D4, _, e4, rfl, (Own_stb o4 by3 fun j hj hS => hS.elim id fun hS => by have := hR4 j hS; have := (o4.lt j hj).1; omega) w5 hg⟩) (by omega) (Nat.le_trans k3.size k4.size) fun R2 rc2 w5 ro5 g5 _ => ?_
    (repeat (first | (with_reducible (first | refine Rt.fin ?_ | refine Rt.tL ?_ | refine Rt.tI ?_ | refine Rt.tB ?_ | refine Rt.tS ?_ | refine Rt.tP ?_ | refine Rt.tD ?_ | refine Rt.tM ?_ | refine Rt.tC ?_ | refine Rt.tN ?_ | refine Rt.tA ?_ | refine Rt.tG ?_ | refine Rt.tF ?_ | refine Rt.os ?_ | refine Rt.clS ?_ | refine Rt.jmN ?_ | refine Rt.jbN ?_ | refine Rt.jbE ?_)) | ((with_reducible (first | apply Rt.ld0 | apply Rt.ld1 | apply Rt.ld2 | apply Rt.ld3 | apply Rt.ld4 | apply Rt.ld5)); first | assumption | exact Lc.kp (by assumption) (by assumption)) | ((with_reducible apply Rt.ol); first | assumption | exact cell_kp (by assumption) (by assumption)) | ((with_reducible apply Rt.ckR); focus ((repeat (first | (with_reducible (first | refine Rt.fin ?_ | refine Rt.tL ?_ | refine Rt.tI ?_ | refine Rt.tB ?_ | refine Rt.tS ?_ | refine Rt.tP ?_ | refine Rt.tD ?_ | refine Rt.tM ?_ | refine Rt.tC ?_ | refine Rt.tN ?_ | refine Rt.tA ?_ | refine Rt.tG ?_ | refine Rt.tF ?_ | refine Rt.os ?_ | refine Rt.clS ?_ | refine Rt.jmN ?_ | refine Rt.jbN ?_ | refine Rt.jbE ?_)) | ((with_reducible (first | apply Rt.ld0 | apply Rt.ld1 | apply Rt.ld2 | apply Rt.ld3 | apply Rt.ld4 | apply Rt.ld5)); first | assumption | exact Lc.kp (by assumption) (by assumption)) | ((with_reducible apply Rt.ol); first | assumption | exact cell_kp (by assumption) (by assumption)))); exact Rt.some' rfl))))
    have hlr : acc.length + 1 = (acc ++ [now ++ bd]).length := by simp
    rw [hlr] at ro5 ⊢
    have k5 : Kp w0 w5 := (k3.tr k4).tx g5 fun j hj => (ro3.lt j hj).1
    exact hgo w5 R2 rc2 none 0 k5 ⟨ro5.less (fun j hj => by cases hj), Own.nil _ _, (fun z hz => by cases hz), fun j hj => by cases hj⟩
set_option maxHeartbeats 1000000 in
theorem RAll_round (hn : 2 ^ 50 < n) (hb : Bv .u8 w0 B l d zs) (hl : l ≤ 2 ^ 34) (ha : at_ ≤ l) (hk : Kp w0 w) {R N : Option Addr} {rc nc : Nat} (hs : RR w w0.heap.size R rc acc N nc now) (hnow : now.length ≤ at_) (hrs : acc.length ≤ at_)
    (hstop : ∀ c' w', lookP sm at_ (zs.drop at_) wi = .stop c' → Kp w w' → Q ⟨.ret, [.slice R acc.length rc, .int .i64 (tk : Int), .int .i64 c'], w'⟩)
    (hgo : ∀ u x mm w' R' rc' N' nc', lookP sm at_ (zs.drop at_) wi = .go u x mm → Kp w0 w' → RR w' w0.heap.size R' rc' (after at_ acc now x u mm tk).1 N' nc' (after at_ acc now x u mm tk).2.1 →
      Rt (butteryref6_All.l0 n m B l d R' (after at_ acc now x u mm tk).1.length rc' N' (after at_ acc now x u mm tk).2.1.length nc' mm ((at_ + u : Nat) : Int) ((after at_ acc now x u mm tk).2.2 : Int) w') Q) :
    Rt (butteryref6_All.l0 n (m + 1) B l d R acc.length rc N now.length nc wi (at_ : Int) (tk : Int) w) Q := by
  have hzl := hb.len
  obtain ⟨ib, hTb⟩ := slB
  obtain ⟨iL, zL, hTL⟩ := slL
  have e0 : Int.tmod (at_ : Int) 128 = ((at_ % 128 : Nat) : Int) := by
    rw [Int.tmod_eq_emod_of_nonneg (by omega)]; omega
  have e1 : IntKind.i64.wrap (128 - ((at_ % 128 : Nat) : Int)) = ((128 - at_ % 128 : Nat) : Int) := by rw [i64_in _ (by omega)]; omega
  have e2 : IntKind.i64.wrap ((l : Int) - (at_ : Int)) = ((l - at_ : Nat) : Int) := by rw [i64_in _ (by omega)]; omega
  rw [butteryref6_All.l0_succ, e0, e1, e2]
  have hpN := padN_le at_
  have hpl2 : ((zs.drop at_).take (padN at_)).length = min (padN at_) (l - at_) := by rw [List.length_take, List.length_drop, hzl]
  refine Rt.jmX (Rt.mono (Q' := fun r => (¬ ∀ z ∈ (zs.drop at_).take (padN at_), z = 0) ∧ (∃ w1, r = ⟨.ret, [.slice R acc.length rc, .int .i64 (tk : Int), .int .i64 2], w1⟩ ∧ Kp w w1) ∨
      (∀ z ∈ (zs.drop at_).take (padN at_), z = 0) ∧ ∃ (left : Nat) (w1 : World), r = ⟨.norm, [.slice B l d, .slice R acc.length rc, .slice N now.length nc, .bool wi, .int .i64 ((at_ + min (padN at_) (l - at_) : Nat) : Int), .int .i64 (tk : Int), .int .i64 (left : Int), .int .i64 ((l - (at_ + min (padN at_) (l - at_)) : Nat) : Int)], w1⟩ ∧ Kp w w1 ∧
        (at_ + min (padN at_) (l - at_) < l → left = 128 - (at_ + min (padN at_) (l - at_)) % 128 ∧ (at_ + min (padN at_) (l - at_)) % 128 ≤ 121)) ?_ ?_)
  · refine Rt.cD (fun h => Rt.cD (fun h' => ?_) fun h' => ?_) fun h => ?_
    · have hp : padN at_ = 128 - at_ % 128 := by unfold padN; rw [if_pos (by omega)]
      have hmin : min (padN at_) (l - at_) = min (l - at_) (128 - at_ % 128) := by rw [hp]; omega
      rw [hmin]
      refine Rt.jm (Rt.mono (Q' := fun r => r = ⟨.norm, [.slice B l d, .slice R acc.length rc, .slice N now.length nc, .bool wi, .int .i64 (at_ : Int), .int .i64 (tk : Int), .int .i64 ((l - at_ : Nat) : Int), .int .i64 ((min (l - at_) (128 - at_ % 128) : Nat) : Int)], w⟩) ?_ ?_)
      · refine Rt.cD (fun h3 => Rt.some' ?_) fun h3 => Rt.some' ?_
        · rw [Nat.min_eq_left (by omega)]
        · rw [Nat.min_eq_right (by omega)]
      · rintro _ rfl
        refine ⟨rfl, ?_⟩
        dsimp only
        (repeat (first | (with_reducible (first | refine Rt.fin ?_ | refine Rt.tL ?_ | refine Rt.tI ?_ | refine Rt.tB ?_ | refine Rt.tS ?_ | refine Rt.tP ?_ | refine Rt.tD ?_ | refine Rt.tM ?_ | refine Rt.tC ?_ | refine Rt.tN ?_ | refine Rt.tA ?_ | refine Rt.tG ?_ | refine Rt.tF ?_ | refine Rt.os ?_ | refine Rt.clS ?_ | refine Rt.jmN ?_ | refine Rt.jbN ?_ | refine Rt.jbE ?_)) | ((with_reducible (first | apply Rt.ld0 | apply Rt.ld1 | apply Rt.ld2 | apply Rt.ld3 | apply Rt.ld4 | apply Rt.ld5)); first | assumption | exact Lc.kp (by assumption) (by assumption)) | ((with_reducible apply Rt.ol); first | assumption | exact cell_kp (by assumption) (by assumption)) | ((with_reducible apply Rt.ckR); focus ((repeat (first | (with_reducible (first | refine Rt.fin ?_ | refine Rt.tL ?_ | refine Rt.tI ?_ | refine Rt.tB ?_ | refine Rt.tS ?_ | refine Rt.tP ?_ | refine Rt.tD ?_ | refine Rt.tM ?_ | refine Rt.tC ?_ | refine Rt.tN ?_ | refine Rt.tA ?_ | refine Rt.tG ?_ | refine Rt.tF ?_ | refine Rt.os ?_ | refine Rt.clS ?_ | refine Rt.jmN ?_ | refine Rt.jbN ?_ | refine Rt.jbE ?_)) | ((with_reducible (first | apply Rt.ld0 | apply Rt.ld1 | apply Rt.ld2 | apply Rt.ld3 | apply Rt.ld4 | apply Rt.ld5)); first | assumption | exact Lc.kp (by assumption) (by assumption)) | ((with_reducible apply Rt.ol); first | assumption | exact cell_kp (by assumption) (by assumption)))); exact Rt.some' rfl))))
        have e3 : IntKind.i64.wrap ((at_ : Int) + ((min (l - at_) (128 - at_ % 128) : Nat) : Int)) = ((at_ + min (l - at_) (128 - at_ % 128) : Nat) : Int) := by rw [i64_in _ (by omega)]; omega
        have e4 : IntKind.i64.wrap (((l - at_ : Nat) : Int) - ((min (l - at_) (128 - at_ % 128) : Nat) : Int)) = ((l - (at_ + min (l - at_) (128 - at_ % 128)) : Nat) : Int) := by rw [i64_in _ (by omega)]; omega
        rw [e3, e4]
        refine Rt.cut (hb.kp hk) (by omega) (by omega) (by omega) fun D bD => ?_
        have e5 : ((zs.take (((at_ + min (l - at_) (128 - at_ % 128) : Nat) : Int)).toNat).drop (at_ : Int).toNat) = (zs.drop at_).take (padN at_) := by
          rw [Int.toNat_natCast, Int.toNat_natCast, List.drop_take, hp, List.take_eq_take_iff, List.length_drop]; omega
        rw [e5] at bD
        refine Rt.cBo (zeros_spec hn bD (by omega)) fun b w1 hb1 k1 => ?_
        cases b with
        | false => exact Rt.cT rfl (Rt.some' (.inl ⟨fun h => by simpa using hb1.2 h, w1, rfl, k1⟩))
        | true => exact Rt.cF rfl (Rt.some' (.inr ⟨hb1.1 rfl, 128, w1, rfl, k1, by omega⟩))
    · have hmin : min (padN at_) (l - at_) = 0 := by omega
      rw [hmin]
      refine Rt.some' (.inr ⟨fun z hz => ?_, 128 - at_ % 128, w, by rw [Nat.add_zero], Kp.rfl' w, by omega⟩)
      have : (zs.drop at_).take (padN at_) = [] := List.length_eq_zero_iff.1 (by omega)
      rw [this] at hz; cases hz
    · have hp : padN at_ = 0 := padN_zero (by omega)
      rw [hp, Nat.zero_min]
      exact Rt.some' (.inr ⟨by simp, 128 - at_ % 128, w, by rw [Nat.add_zero], Kp.rfl' w, by omega⟩)
  · rintro r (⟨hz, w1, rfl, k1⟩ | ⟨hz, left, w1, rfl, k1, hlf⟩)
    · refine .inr ⟨(fun h => by cases h), hstop 2 w1 ?_ k1⟩
      unfold lookP
      rw [if_neg hz]
    · refine .inl ⟨rfl, ?_⟩
      dsimp only
      (repeat (first | (with_reducible (first | refine Rt.fin ?_ | refine Rt.tL ?_ | refine Rt.tI ?_ | refine Rt.tB ?_ | refine Rt.tS ?_ | refine Rt.tP ?_ | refine Rt.tD ?_ | refine Rt.tM ?_ | refine Rt.tC ?_ | refine Rt.tN ?_ | refine Rt.tA ?_ | refine Rt.tG ?_ | refine Rt.tF ?_ | refine Rt.os ?_ | refine Rt.clS ?_ | refine Rt.jmN ?_ | refine Rt.jbN ?_ | refine Rt.jbE ?_)) | ((with_reducible (first | apply Rt.ld0 | apply Rt.ld1 | apply Rt.ld2 | apply Rt.ld3 | apply Rt.ld4 | apply Rt.ld5)); first | assumption | exact Lc.kp (by assumption) (by assumption)) | ((with_reducible apply Rt.ol); first | assumption | exact cell_kp (by assumption) (by assumption)) | ((with_reducible apply Rt.ckR); focus ((repeat (first | (with_reducible (first | refine Rt.fin ?_ | refine Rt.tL ?_ | refine Rt.tI ?_ | refine Rt.tB ?_ | refine Rt.tS ?_ | refine Rt.tP ?_ | refine Rt.tD ?_ | refine Rt.tM ?_ | refine Rt.tC ?_ | refine Rt.tN ?_ | refine Rt.tA ?_ | refine Rt.tG ?_ | refine Rt.tF ?_ | refine Rt.os ?_ | refine Rt.clS ?_ | refine Rt.jmN ?_ | refine Rt.jbN ?_ | refine Rt.jbE ?_)) | ((with_reducible (first | apply Rt.ld0 | apply Rt.ld1 | apply Rt.ld2 | apply Rt.ld3 | apply Rt.ld4 | apply Rt.ld5)); first | assumption | exact Lc.kp (by assumption) (by assumption)) | ((with_reducible apply Rt.ol); first | assumption | exact cell_kp (by assumption) (by assumption)))); exact Rt.some' rfl))))
      have hlp := lookP_split (at_ := at_) (s := zs.drop at_) (wi := wi) hz
      rw [hpl2, List.drop_drop] at hlp
      have hdp : zs.drop (at_ + padN at_) = zs.drop (at_ + min (padN at_) (l - at_)) := by
        by_cases h : padN at_ ≤ l - at_
        · rw [Nat.min_eq_left h]
        · rw [List.drop_of_length_le (by omega), List.drop_of_length_le (by omega)]
      rw [hdp] at hlp
      generalize hpq : min (padN at_) (l - at_) = pl at *
      have hs1 := hs.kp k1
      have hk1 := hk.tr k1
      have hsl : (zs.drop (at_ + pl)).length = l - (at_ + pl) := by rw [List.length_drop, hzl]
      refine Rt.cQ (fun h0 => ?_) fun h0 => ?_
      · have hnil : zs.drop (at_ + pl) = [] := List.length_eq_zero_iff.1 (by omega)
        have hlp : lookP sm at_ (zs.drop at_) wi = .stop (if wi = true then 1 else 0) := by
          rw [hlp, hnil]
          unfold lookS
          rw [if_pos rfl]; rfl
        cases wi with
        | true => exact Rt.cT rfl (Rt.some' (hstop 1 w1 hlp k1))
        | false => exact Rt.cF rfl (Rt.some' (hstop 0 w1 hlp k1))
      obtain ⟨hlf1, hm121⟩ := hlf (by omega)
      have hne : zs.drop (at_ + pl) ≠ [] := fun h => by rw [h] at hsl; simp at hsl; omega
      have hlk := lookS_next (a := at_ + pl) (wi := wi) hne
      have stop_ : ∀ c', nextC (at_ + pl) (zs.drop (at_ + pl)) = c' → c' ≠ 0 → lookP sm at_ (zs.drop at_) wi = .stop c' := fun c' h h' => by
        rw [hlp, hlk, if_neg (by rw [h]; exact h'), h]; rfl
      refine Rt.cD (fun h7 => Rt.some' (hstop 1 w1 (stop_ 1 (by rw [nextC, if_pos (by omega)]) (by decide)) k1)) fun h7 => ?_
      obtain ⟨a, b, c', d', e, f, g, t, hsq⟩ := seven (s := zs.drop (at_ + pl)) (by omega)
      have hby : Bytes (zs.drop (at_ + pl)) := fun z hz => hb.rng z (List.mem_of_mem_drop hz)
      have hcnt : cnt (zs.drop (at_ + pl)) = (le [e, f]).toNat := by rw [hsq]; rfl
      have hkd : kindAt (zs.drop (at_ + pl)) = g := by rw [hsq]; rfl
      have h4 : (zs.drop (at_ + pl)).take 4 = [a, b, c', d'] := by rw [hsq]; rfl
      have h7' : (zs.drop (at_ + pl)).take 7 = [a, b, c', d', e, f, g] := by rw [hsq]; rfl
      have g6 : zs.getD ((at_ + pl + 6 : Nat) : Int).toNat 0 = g := by
        rw [Int.toNat_natCast, ← getD_drop, hsq]; rfl
      have hsc : Low.slc zs (at_ + pl + 4) 2 = [e, f] := by
        unfold Low.slc
        rw [← List.drop_drop, hsq]; rfl
      rw [hsq] at hby
      have bab : Bytes [a, b, c', d'] := fun z hz => hby z (by simp at hz ⊢; omega)
      have bef : Bytes [e, f] := fun z hz => hby z (by simp at hz ⊢; omega)
      have bg : Bytes [g] := fun z hz => hby z (by simp at hz ⊢; omega)
      have re := u8wf (bef e (by simp))
      have rf := u8wf (bef f (by simp))
      have rg := u8wf (bg g (by simp))
      have hle : (le [e, f] : Int) = (cnt (zs.drop (at_ + pl)) : Int) := by rw [hcnt]; simp only [le]; omega
      have hcb : cnt (zs.drop (at_ + pl)) < 65536 := by rw [hcnt]; simp only [le]; omega
      have eg : butteryref1_Get n [.slice B l d, .int .i64 ((at_ + pl + 4 : Nat) : Int), .int .i64 2] w1 = some ([.int .u64 (le (Low.slc zs (at_ + pl + 4) 2))], w1) := Low.Get_spec (mm := 2) (hb.kp hk1) (by omega) (by omega) (by omega) (by omega)
      have i4 : IntKind.i64.wrap (((at_ + pl : Nat) : Int) + 4) = ((at_ + pl + 4 : Nat) : Int) := by rw [i64_in _ (by omega)]; omega
      have i6 : IntKind.i64.wrap (((at_ + pl : Nat) : Int) + 6) = ((at_ + pl + 6 : Nat) : Int) := by rw [i64_in _ (by omega)]; omega
      have i7 : IntKind.i64.wrap (((at_ + pl : Nat) : Int) + 7) = ((at_ + pl + 7 : Nat) : Int) := by rw [i64_in _ (by omega)]; omega
      rw [i4, i6, i7, eg, hsc, hle]
      (repeat (first | (with_reducible (first | refine Rt.fin ?_ | refine Rt.tL ?_ | refine Rt.tI ?_ | refine Rt.tB ?_ | refine Rt.tS ?_ | refine Rt.tP ?_ | refine Rt.tD ?_ | refine Rt.tM ?_ | refine Rt.tC ?_ | refine Rt.tN ?_ | refine Rt.tA ?_ | refine Rt.tG ?_ | refine Rt.tF ?_ | refine Rt.os ?_ | refine Rt.clS ?_ | refine Rt.jmN ?_ | refine Rt.jbN ?_ | refine Rt.jbE ?_)) | ((with_reducible (first | apply Rt.ld0 | apply Rt.ld1 | apply Rt.ld2 | apply Rt.ld3 | apply Rt.ld4 | apply Rt.ld5)); first | assumption | exact Lc.kp (by assumption) (by assumption)) | ((with_reducible apply Rt.ol); first | assumption | exact cell_kp (by assumption) (by assumption)) | ((with_reducible apply Rt.ckR); focus ((repeat (first | (with_reducible (first | refine Rt.fin ?_ | refine Rt.tL ?_ | refine Rt.tI ?_ | refine Rt.tB ?_ | refine Rt.tS ?_ | refine Rt.tP ?_ | refine Rt.tD ?_ | refine Rt.tM ?_ | refine Rt.tC ?_ | refine Rt.tN ?_ | refine Rt.tA ?_ | refine Rt.tG ?_ | refine Rt.tF ?_ | refine Rt.os ?_ | refine Rt.clS ?_ | refine Rt.jmN ?_ | refine Rt.jbN ?_ | refine Rt.jbE ?_)) | ((with_reducible (first | apply Rt.ld0 | apply Rt.ld1 | apply Rt.ld2 | apply Rt.ld3 | apply Rt.ld4 | apply Rt.ld5)); first | assumption | exact Lc.kp (by assumption) (by assumption)) | ((with_reducible apply Rt.ol); first | assumption | exact cell_kp (by assumption) (by assumption)))); exact Rt.some' rfl))))
      have in_ : IntKind.i64.wrap ((cnt (zs.drop (at_ + pl)) : Nat) : Int) = ((cnt (zs.drop (at_ + pl)) : Nat) : Int) := i64_in _ (by omega)
      have i7n : IntKind.i64.wrap (7 + ((cnt (zs.drop (at_ + pl)) : Nat) : Int)) = ((7 + cnt (zs.drop (at_ + pl)) : Nat) : Int) := by rw [i64_in _ (by omega)]; omega
      have iat : IntKind.i64.wrap (((at_ + pl + 7 : Nat) : Int) + ((cnt (zs.drop (at_ + pl)) : Nat) : Int)) = ((at_ + pl + 7 + cnt (zs.drop (at_ + pl)) : Nat) : Int) := by rw [i64_in _ (by omega)]; omega
      rw [in_, i7n, iat]
      refine Rt.ix (hb.kp hk1).sl (by omega) (by omega) ?_
      rw [g6]
      refine Rt.cD (fun h2 => Rt.some' (hstop 2 w1 (stop_ 2 (by rw [nextC, if_neg (by omega), if_pos (by omega)]) (by decide)) k1)) fun h2 => ?_
      refine Rt.cD (fun h3 => Rt.some' (hstop 1 w1 (stop_ 1 (by rw [nextC, if_neg (by omega), if_neg (by omega), if_pos (by omega)]) (by decide)) k1)) fun h3 => ?_
      refine Rt.cut hb (by omega) (by omega) (by omega) fun E bE => ?_
      have e8 : ((zs.take ((at_ + pl + 7 + cnt (zs.drop (at_ + pl)) : Nat) : Int).toNat).drop ((at_ + pl + 7 : Nat) : Int).toNat) = body (zs.drop (at_ + pl)) := by
        rw [body, List.drop_drop, List.drop_take, Int.toNat_natCast, Int.toNat_natCast, show at_ + pl + 7 + cnt (zs.drop (at_ + pl)) - (at_ + pl + 7) = cnt (zs.drop (at_ + pl)) by omega]
      rw [e8] at bE
      refine Rt.cut hb (by omega) (by omega) (by omega) fun F bF => ?_
      have e9 : ((zs.take ((at_ + pl + 7 : Nat) : Int).toNat).drop ((at_ + pl : Nat) : Int).toNat) = [a, b, c', d', e, f, g] := by
        rw [← h7', List.drop_take, Int.toNat_natCast, Int.toNat_natCast, show at_ + pl + 7 - (at_ + pl) = 7 by omega]
      rw [e9] at bF
      have hk1d := hk1.dr
      refine Rt.str (bF.kp hk1d) ?_
      have hxl : (body (zs.drop (at_ + pl))).length = cnt (zs.drop (at_ + pl)) := by rw [body, List.length_take, List.length_drop]; omega
      refine Rt.cO (rpiece_spec (w := w1.drew) hn (k := g) rg (bE.kp hk1d) (by omega)) fun D e' w2 o2 k2 => ?_
      have k2' : Kp w w2 := (k1.dr).tr k2
      have hk2 := hk.tr k2'
      have hbx : Bytes (body (zs.drop (at_ + pl))) := bE.rng
      have hbp : Bytes (pc sm g (body (zs.drop (at_ + pl)))) := pc_bytes rg hbx
      refine Rt.ckR (Rt.str (bF.kp hk2) (Rt.some' rfl)) ?_
      refine Rt.cut (o2.bv hbp) (by omega) (by omega) (by rw [pc_len]; omega) fun G bG => ?_
      rw [show Int.toNat 7 = 7 from rfl, show Int.toNat 0 = 0 from rfl, List.drop_zero, Nat.sub_zero, Nat.sub_zero] at bG
      refine Rt.str bG ?_
      have hiff := head7 (g := g) bab bef (x := body (zs.drop (at_ + pl))) (by rw [hxl, hle])
      have hnc : nextC (at_ + pl) (zs.drop (at_ + pl)) = if (1 ≤ g ∧ g ≤ 4) ∧ le [a, b, c', d'] = sm (g :: body (zs.drop (at_ + pl))) then 0 else 2 := by
        rw [nextC, if_neg (by omega), if_neg (by omega), if_neg (by omega), hkd, h4]
      refine Rt.cSn bF.rng bG.rng (fun heq => ?_) fun hneq => Rt.some' (hstop 2 w2 (stop_ 2 (by rw [hnc, if_neg (fun h => hneq (hiff.2 h.2))]) (by decide)) k2')
      refine Rt.cD (fun h5 => Rt.some' (hstop 2 w2 (stop_ 2 (by rw [hnc, if_neg (by omega)]) (by decide)) k2')) fun h5 => ?_
      refine Rt.cD (fun h6 => Rt.some' (hstop 2 w2 (stop_ 2 (by rw [hnc, if_neg (by omega)]) (by decide)) k2')) fun h6 => ?_
      rw [if_pos ⟨by omega, hiff.1 heq⟩] at hnc
      rw [if_pos hnc, hkd] at hlk
      refine Rt.cB (fun hw => ?_) fun hw => ?_
      · refine Rt.some' (hstop 2 w2 ?_ k2')
        rw [hlp, hlk, if_neg ?_]; rfl
        have hw : wi = decide (g < 3) := by simpa using hw
        rw [hw, decide_eq_true_eq]; omega
      have hwi : wi = true ↔ 3 ≤ g := by
        have hw : ¬ wi = decide (g < 3) := by simpa using hw
        cases wi
        · have : g < 3 := by
            rcases Int.lt_or_le g 3 with h | h
            · exact h
            · exact absurd (decide_eq_false (by omega)).symm hw
          simp; omega
        · have : ¬ g < 3 := fun h => hw (decide_eq_true h).symm
          simp; omega
      rw [if_pos hwi] at hlk
      rw [hlk] at hlp
      have hlp : lookP sm at_ (zs.drop at_) wi = .go (pl + (7 + cnt (zs.drop (at_ + pl)))) (body (zs.drop (at_ + pl))) (decide (g = 2 ∨ g = 3)) := hlp
      rw [show at_ + pl + 7 + cnt (zs.drop (at_ + pl)) = at_ + (pl + (7 + cnt (zs.drop (at_ + pl)))) by omega]
      rw [show at_ + pl + 7 + cnt (zs.drop (at_ + pl)) = at_ + (pl + (7 + cnt (zs.drop (at_ + pl)))) by omega] at bE
      exact RAll_tail (w2 := w2) (g := g) hk2 (hs.kp k2') bE (by omega) (by omega) (by omega) fun w' R' rc' N' nc' => hgo _ _ _ w' R' rc' N' nc' hlp
theorem RAll_l0 (hn : 2 ^ 50 < n) (hb : Bv .u8 w0 B l d zs) (hl : l ≤ 2 ^ 34) {d' : Nat} {cl : Int} (h : Rd sm at_ s wi now tk rs d' cl) : s = zs.drop at_ → at_ ≤ l → ∀ (m : Nat) (w : World) (acc : List (List Int)) (R N : Option Addr) (rc nc : Nat), s.length < m → Kp w0 w → RR w w0.heap.size R rc acc N nc now → now.length ≤ at_ → acc.length ≤ at_ →
    Rt (butteryref6_All.l0 n m B l d R acc.length rc N now.length nc wi (at_ : Int) (tk : Int) w) fun r => r.ex = .ret ∧ ∃ R rc, r.vals = [.slice R (acc ++ rs).length rc, .int .i64 (d' : Int), .int .i64 cl] ∧ Ev byEl r.w R (acc ++ rs).length rc (acc ++ rs) ∧ Kp w0 r.w := by
  induction h with
  | stop h =>
    intro hs ha m w acc R N rc nc hm hk hR h1 h2
    obtain ⟨m, rfl⟩ : ∃ m', m = m' + 1 := ⟨m - 1, by omega⟩
    subst hs
    refine RAll_round hn hb hl ha hk hR h1 h2 (fun c' w' hc k' => ?_) fun u x mm w' R' rc' N' nc' hg => ?_
    · have hcc := Stp.stop.inj (h.symm.trans hc)
      rw [← hcc]
      have e : acc ++ [] = acc := List.append_nil acc
      exact ⟨rfl, R, rc, by rw [e], by rw [e]; exact OwnX_ev (hR.ro.kp k'), hk.tr k'⟩
    · have hg := h.symm.trans hg
      cases hg
  | more h t ih =>
    intro hs ha m w acc R N rc nc hm hk hR h1 h2
    obtain ⟨m, rfl⟩ : ∃ m', m = m' + 1 := ⟨m - 1, by omega⟩
    subst hs
    have hgo := lookP_go h
    rw [List.length_drop] at hm hgo
    have hzl := hb.len
    refine RAll_round hn hb hl ha hk hR h1 h2 (fun c' w' hc => ?_) fun u x mm w' R' rc' N' nc' hg k' hR' => ?_
    · have hc := h.symm.trans hc
      cases hc
    · have hg := h.symm.trans hg
      injection hg with e1 e2 e3
      subst e1 e2 e3
      exact ih (by rw [List.drop_drop]) (by omega) m w' acc R' N' rc' nc' (by rw [List.length_drop, List.length_drop]; omega) k' hR' (by rw [List.length_append]; omega) (by omega)
  | last h t ih =>
    intro hs ha m w acc R N rc nc hm hk hR h1 h2
    obtain ⟨m, rfl⟩ : ∃ m', m = m' + 1 := ⟨m - 1, by omega⟩
    subst hs
    have hgo := lookP_go h
    rw [List.length_drop] at hm hgo
    have hzl := hb.len
    refine RAll_round hn hb hl ha hk hR h1 h2 (fun c' w' hc => ?_) fun u x mm w' R' rc' N' nc' hg k' hR' => ?_
    · have hc := h.symm.trans hc
      cases hc
    · have hg := h.symm.trans hg
      injection hg with e1 e2 e3
      subst e1 e2 e3
      have := ih (by rw [List.drop_drop]) (by omega) m w' (acc ++ [_]) R' N' rc' nc' (by rw [List.length_drop, List.length_drop]; omega) k' hR' (by simp) (by rw [List.length_append, List.length_singleton]; omega)
      rw [List.append_assoc] at this
      exact this
theorem RAll_spec (hn : 2 ^ 50 < n) (hb : Bv .u8 w B l d zs) (hl : l ≤ 2 ^ 34) {d' : Nat} {cl : Int} (h : Rd sm 0 zs false [] 0 rs d' cl) : Rt (butteryref6_All n [.slice B l d] w) (RAll w rs d' cl) := by
  have hzl := hb.len
  rw [butteryref6_All_eq]
  have key := RAll_l0 (n := n) hn hb hl h (by simp) (by omega) n w [] none none 0 0 (by omega) (Kp.rfl' w) ⟨OwnX.nil _ _ _, Own.nil _ _, (fun z hz => by cases hz), fun j hj => by cases hj⟩ (by simp) (by simp)
  refine Rt.fin (Rt.mono key ?_)
  rintro ⟨ex, vs, w3⟩ ⟨h1, R, rc, h2, h3, h4⟩
  dsimp only at h1 h2 h3 h4
  subst h1 h2
  rw [List.nil_append] at h3 ⊢
  exact ⟨rfl, R, rc, w3, rfl, h3, h4⟩
end
end Go.Proofs.YtebcmkohnebgmaaDoor.Fr
