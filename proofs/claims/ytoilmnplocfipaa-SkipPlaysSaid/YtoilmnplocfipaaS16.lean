/- The definition's list: Insert. -/
import Derived.Test.YtoilmnplocfipaaS15
import Derived.Test.YtoilmnplocfipaaS13
namespace Go.Proofs.Ytoilmnplocfipaa.Sk
open Go Big Go.RowKit Go.IntWalk Ik
set_option linter.unusedVariables false
set_option linter.unusedSimpArgs false
theorem wfH {j : Nat} (h : j < 256) : (Lit.int .i64 (j : Int)).wf = true := by
  have : ∀ y : Fin 256, (Lit.int .i64 ((y.val : Nat) : Int)).wf = true := by decide +kernel
  exact this ⟨j, h⟩
theorem ht_wf {ks : List (En × Nat)} (h : ∀ y ∈ ks, rightE y.1 ∧ 1 ≤ y.2 ∧ y.2 ≤ 12) : ∀ z ∈ htA ks, (Lit.int .i64 z).wf = true := fun z hz => by
  obtain ⟨y, hy, rfl⟩ := List.mem_map.1 hz
  have := (h y hy).2
  exact wfH (by omega)
theorem en_stbU {w : World} {S : Nat → Prop} {a1 a2 : Nat} {A B : Option Addr} {l c m d : Nat} {s k : Int} {x : En} (o1 : Own .u8 5 w a1 (.slice A l c) x.key) (o2 : Own .u8 5 w a2 (.slice B m d) x.val) (r1 : ∀ z ∈ x.key, (Lit.int .u8 z).wf = true) (r2 : ∀ z ∈ x.val, (Lit.int .u8 z).wf = true) (hs : s = x.seq) (hk : k = x.kind) (rs : (Lit.int .u64 x.seq).wf = true) (rk : (Lit.int .i64 x.kind).wf = true)
    (h : ∀ j, S j → j < a1 ∧ j < a2) : Stb S (fun w => enEl.rd w [.slice A l c, .int .u64 s, .int .i64 k, .slice B m d] x) w :=
  fun w' hg => ⟨_, _, _, _, _, _, _, _, rfl, (o1.gx hg fun j hj hv => by have := (o1.lt j hj).1; have := h j hv; omega).bv r1, hs, hk, rs, rk, (o2.gx hg fun j hj hv => by have := (o2.lt j hj).1; have := h j hv; omega).bv r2⟩
theorem put_at {x : En} {h : Nat} {ks : List (En × Nat)} {i : Nat} (hi : (ks.takeWhile (belA x.k)).length = i) : putA x h ks = ks.take i ++ (x, h) :: ks.drop i := by
  have gen : ∀ (p t : List (En × Nat)), p ++ t = ks → ks.take p.length = p ∧ ks.drop p.length = t := by rintro p t rfl; simp
  have g := gen _ _ (List.takeWhile_append_dropWhile (p := belA x.k) (l := ks))
  rw [hi] at g
  obtain ⟨h1, h2⟩ := g
  rw [h1, h2]; rfl
theorem twice_at {k : Key} {ks : List (En × Nat)} (hs : srtA ks) : (∃ y ∈ ks, cmpK y.1.k k = 0) ↔ ∃ y, ks[(ks.takeWhile (belA k)).length]? = some y ∧ cmpK y.1.k k = 0 := by
  constructor
  · rintro ⟨y, hy, he⟩
    obtain ⟨i, hi⟩ := List.getElem?_of_mem hy
    have hk : y.1.k = k := key_eq he
    have hc := (srt_cut hs hi).1
    rw [hk] at hc
    have hl := (List.getElem?_eq_some_iff.1 hi).1
    refine ⟨y, ?_, he⟩
    rw [hc, List.length_take, Nat.min_eq_left (by omega)]; exact hi
  · rintro ⟨y, hy, he⟩
    exact ⟨y, List.mem_of_getElem? hy, he⟩
section
variable {α : Type} {Q : α → Prop} {n base b : Nat} {w w' w0 : World} {S T R : Nat → Prop} {A B : Option Addr} {c l m d : Nat} {ks : List (En × Nat)} {x : En} {k : Key} {s0 k0 : Int}
theorem between_spec {x : Int} : Rt (butteryref9_between n [.int .i64 x, .int .i64 1, .int .i64 12] w) (RI .i64 (clampI x) w) := by
  rw [butteryref9_between_eq]
  unfold clampI
  refine Rt.fin (Rt.cD (fun h => Rt.endI ?_ (Kp.rfl' _)) fun h => Rt.cD (fun h' => Rt.endI ?_ (Kp.rfl' _)) fun h' => Rt.endI ?_ (Kp.rfl' _))
  · rw [if_neg (by omega : ¬ 1 < x)]; rfl
  · rw [if_pos (by omega : 1 < x), if_pos (by omega)]
  · by_cases h1 : 1 < x
    · rw [if_pos h1, if_neg (by omega)]
    · rw [if_neg h1, if_neg (by decide)]; omega
theorem RInsert_spec {K V : Option Addr} {kl kc vl vc : Nat} {H : Int} (h : Rf w base b S ks) (hs : srtA ks) (hok : ∀ y ∈ ks, rightE y.1 ∧ 1 ≤ y.2 ∧ y.2 ≤ 12) (hx : EnV w K kl kc s0 k0 V vl vc x) (hb : base ≤ w.heap.size) (hN : ks.length ≤ 2 ^ 30) (hn : 2 ^ 60 < n) :
    Rt (butteryref9_List_Insert n [pt b, ev K kl kc s0 k0 V vl vc, .int .i64 H] w) (RF S w [.int .i64 (insA x H ks).1] fun S' w' => Rf w' base b S' (insA x H ks).2) := by
  obtain ⟨t, z, hT⟩ := slE'
  obtain ⟨tI, hTI⟩ := slI
  have hL : ∀ y ∈ ks, y.1.key.length ≤ 256 := fun y hy => (hok y hy).1.1.2.1
  have hfl : (htA ks).length = ks.length := htA_len
  have keepP : ∀ {w1 : World} {v : Int}, insA x H ks = (v, ks) → Kp w w1 → RF S w [.int .i64 (insA x H ks).1] (fun S' w' => Rf w' base b S' (insA x H ks).2) ([.int .i64 v], w1) := fun {w1 v} e hk => by
    rw [e]
    exact ⟨w1, S, rfl, hk.gx, fun j hj => .inl hj, h.kp hk⟩
  have keep : ∀ {w1 : World} {v : Int}, insA x H ks = (v, ks) → Kp w w1 → Rt (some (⟨.ret, [.int .i64 v], w1⟩ : Res)) fun r => r.ex = .ret ∧ RF S w [.int .i64 (insA x H ks).1] (fun S' w' => Rf w' base b S' (insA x H ks).2) (r.vals, r.w) := fun e hk => Rt.some' ⟨rfl, keepP e hk⟩
  rw [butteryref9_List_Insert_eq]
  refine Rt.fin (Rt.al fun w1 l1 k1 s1 => ?_)
  (repeat (first | (with_reducible (first | refine Rt.fin ?_ | refine Rt.tL ?_ | refine Rt.tI ?_ | refine Rt.tB ?_ | refine Rt.tS ?_ | refine Rt.tP ?_ | refine Rt.tD ?_ | refine Rt.tM ?_ | refine Rt.tC ?_ | refine Rt.tN ?_ | refine Rt.tA ?_ | refine Rt.tG ?_ | refine Rt.tF ?_ | refine Rt.os ?_ | refine Rt.clS ?_ | refine Rt.jmN ?_ | refine Rt.jbN ?_ | refine Rt.jbE ?_)) | ((with_reducible (first | apply Rt.ld0 | apply Rt.ld1 | apply Rt.ld2 | apply Rt.ld3 | apply Rt.ld4 | apply Rt.ld5)); first | assumption | exact Lc.kp (by assumption) (by assumption)) | ((with_reducible apply Rt.ol); first | assumption | exact cell_kp (by assumption) (by assumption)) | ((with_reducible apply Rt.ckR); focus ((repeat (first | (with_reducible (first | refine Rt.fin ?_ | refine Rt.tL ?_ | refine Rt.tI ?_ | refine Rt.tB ?_ | refine Rt.tS ?_ | refine Rt.tP ?_ | refine Rt.tD ?_ | refine Rt.tM ?_ | refine Rt.tC ?_ | refine Rt.tN ?_ | refine Rt.tA ?_ | refine Rt.tG ?_ | refine Rt.tF ?_ | refine Rt.os ?_ | refine Rt.clS ?_ | refine Rt.jmN ?_ | refine Rt.jbN ?_ | refine Rt.jbE ?_)) | ((with_reducible (first | apply Rt.ld0 | apply Rt.ld1 | apply Rt.ld2 | apply Rt.ld3 | apply Rt.ld4 | apply Rt.ld5)); first | assumption | exact Lc.kp (by assumption) (by assumption)) | ((with_reducible apply Rt.ol); first | assumption | exact cell_kp (by assumption) (by assumption)))); exact Rt.some' rfl))))
  refine Rt.cBo (RRightE_spec (hx.kp k1)) fun b1 w2 hb1 k2 => ?_
  have k12 := k1.tr k2
  refine Rt.cB (fun hbf => ?_) fun hbt => ?_
  · have : ¬ rightE x := fun h => by rw [hb1.2 h] at hbf; cases hbf
    exact keep (by unfold insA; rw [if_pos this]) k12
  have hr : rightE x := hb1.1 (by cases b1 <;> simp_all)
  have hkl := hx.key.len
  have hvl := hx.val.len
  have hr1 : x.key.length ≤ 256 := hr.1.2.1
  have hr2 := hr.2.1
  have l2 := l1.kp k2
  (repeat (first | (with_reducible (first | refine Rt.fin ?_ | refine Rt.tL ?_ | refine Rt.tI ?_ | refine Rt.tB ?_ | refine Rt.tS ?_ | refine Rt.tP ?_ | refine Rt.tD ?_ | refine Rt.tM ?_ | refine Rt.tC ?_ | refine Rt.tN ?_ | refine Rt.tA ?_ | refine Rt.tG ?_ | refine Rt.tF ?_ | refine Rt.os ?_ | refine Rt.clS ?_ | refine Rt.jmN ?_ | refine Rt.jbN ?_ | refine Rt.jbE ?_)) | ((with_reducible (first | apply Rt.ld0 | apply Rt.ld1 | apply Rt.ld2 | apply Rt.ld3 | apply Rt.ld4 | apply Rt.ld5)); first | assumption | exact Lc.kp (by assumption) (by assumption)) | ((with_reducible apply Rt.ol); first | assumption | exact cell_kp (by assumption) (by assumption)) | ((with_reducible apply Rt.ckR); focus ((repeat (first | (with_reducible (first | refine Rt.fin ?_ | refine Rt.tL ?_ | refine Rt.tI ?_ | refine Rt.tB ?_ | refine Rt.tS ?_ | refine Rt.tP ?_ | refine Rt.tD ?_ | refine Rt.tM ?_ | refine Rt.tC ?_ | refine Rt.tN ?_ | refine Rt.tA ?_ | refine Rt.tG ?_ | refine Rt.tF ?_ | refine Rt.os ?_ | refine Rt.clS ?_ | refine Rt.jmN ?_ | refine Rt.jbN ?_ | refine Rt.jbE ?_)) | ((with_reducible (first | apply Rt.ld0 | apply Rt.ld1 | apply Rt.ld2 | apply Rt.ld3 | apply Rt.ld4 | apply Rt.ld5)); first | assumption | exact Lc.kp (by assumption) (by assumption)) | ((with_reducible apply Rt.ol); first | assumption | exact cell_kp (by assumption) (by assumption)))); exact Rt.some' rfl))))
  refine Rt.cI (at_spec (h.kp k12) hs hL (hx.kp k12).kv hn hN) fun w3 k3 => ?_
  have k13 := k12.tr k3
  have l3d := (l2.kp k3).kp (Kp.rfl' w3).dr
  have k13d := k13.dr
  have htl : (ks.takeWhile (belA x.k)).length ≤ ks.length := (List.takeWhile_sublist _).length_le
  have htw := twice_at (k := x.k) hs
  have hput := put_at (x := x) (h := (clampI H).toNat) (ks := ks) rfl
  generalize (ks.takeWhile (belA x.k)).length = i at *
  obtain ⟨R, A, c, B, d, hV, hSR⟩ := id h
  have hV3 := hV.gx (T := fun _ => False) k13d.gx fun _ _ h => h
  have lb := hV3.lc
  have hend : ∀ {w4 : World}, Kp w w4 → ¬ (∃ y ∈ ks, cmpK y.1.k x.k = 0) → Kp w w4 ∧ ¬ (∃ y ∈ ks, cmpK y.1.k x.k = 0) := fun a b => ⟨a, b⟩
  refine Rt.jmX (Rt.mono (Q' := fun r => (r.ex = .norm ∧ r.vals = [pt b, .int .i64 H, .pointer (some ⟨w.heap.size, 0, none⟩), .int .i64 (i : Int)] ∧ Kp w r.w ∧ Kp w1 r.w ∧ ¬ (∃ y ∈ ks, cmpK y.1.k x.k = 0)) ∨ (r.ex = .ret ∧ r.vals = [.int .i64 9] ∧ Kp w r.w ∧ (∃ y ∈ ks, cmpK y.1.k x.k = 0))) ?_ ?_)
  · (repeat (first | (with_reducible (first | refine Rt.fin ?_ | refine Rt.tL ?_ | refine Rt.tI ?_ | refine Rt.tB ?_ | refine Rt.tS ?_ | refine Rt.tP ?_ | refine Rt.tD ?_ | refine Rt.tM ?_ | refine Rt.tC ?_ | refine Rt.tN ?_ | refine Rt.tA ?_ | refine Rt.tG ?_ | refine Rt.tF ?_ | refine Rt.os ?_ | refine Rt.clS ?_ | refine Rt.jmN ?_ | refine Rt.jbN ?_ | refine Rt.jbE ?_)) | ((with_reducible (first | apply Rt.ld0 | apply Rt.ld1 | apply Rt.ld2 | apply Rt.ld3 | apply Rt.ld4 | apply Rt.ld5)); first | assumption | exact Lc.kp (by assumption) (by assumption)) | ((with_reducible apply Rt.ol); first | assumption | exact cell_kp (by assumption) (by assumption)) | ((with_reducible apply Rt.ckR); focus ((repeat (first | (with_reducible (first | refine Rt.fin ?_ | refine Rt.tL ?_ | refine Rt.tI ?_ | refine Rt.tB ?_ | refine Rt.tS ?_ | refine Rt.tP ?_ | refine Rt.tD ?_ | refine Rt.tM ?_ | refine Rt.tC ?_ | refine Rt.tN ?_ | refine Rt.tA ?_ | refine Rt.tG ?_ | refine Rt.tF ?_ | refine Rt.os ?_ | refine Rt.clS ?_ | refine Rt.jmN ?_ | refine Rt.jbN ?_ | refine Rt.jbE ?_)) | ((with_reducible (first | apply Rt.ld0 | apply Rt.ld1 | apply Rt.ld2 | apply Rt.ld3 | apply Rt.ld4 | apply Rt.ld5)); first | assumption | exact Lc.kp (by assumption) (by assumption)) | ((with_reducible apply Rt.ol); first | assumption | exact cell_kp (by assumption) (by assumption)))); exact Rt.some' rfl))))
    have k1d := (k2.tr k3).dr
    refine Rt.cD (fun hlt => ?_) fun hge => ?_
    · have hyi : ks[i]? = some (ks[i]'(by omega)) := List.getElem?_eq_getElem _
      generalize (ks[i]'(by omega)) = yi at hyi
      (repeat (first | (with_reducible (first | refine Rt.fin ?_ | refine Rt.tL ?_ | refine Rt.tI ?_ | refine Rt.tB ?_ | refine Rt.tS ?_ | refine Rt.tP ?_ | refine Rt.tD ?_ | refine Rt.tM ?_ | refine Rt.tC ?_ | refine Rt.tN ?_ | refine Rt.tA ?_ | refine Rt.tG ?_ | refine Rt.tF ?_ | refine Rt.os ?_ | refine Rt.clS ?_ | refine Rt.jmN ?_ | refine Rt.jbN ?_ | refine Rt.jbE ?_)) | ((with_reducible (first | apply Rt.ld0 | apply Rt.ld1 | apply Rt.ld2 | apply Rt.ld3 | apply Rt.ld4 | apply Rt.ld5)); first | assumption | exact Lc.kp (by assumption) (by assumption)) | ((with_reducible apply Rt.ol); first | assumption | exact cell_kp (by assumption) (by assumption)) | ((with_reducible apply Rt.ckR); focus ((repeat (first | (with_reducible (first | refine Rt.fin ?_ | refine Rt.tL ?_ | refine Rt.tI ?_ | refine Rt.tB ?_ | refine Rt.tS ?_ | refine Rt.tP ?_ | refine Rt.tD ?_ | refine Rt.tM ?_ | refine Rt.tC ?_ | refine Rt.tN ?_ | refine Rt.tA ?_ | refine Rt.tG ?_ | refine Rt.tF ?_ | refine Rt.os ?_ | refine Rt.clS ?_ | refine Rt.jmN ?_ | refine Rt.jbN ?_ | refine Rt.jbE ?_)) | ((with_reducible (first | apply Rt.ld0 | apply Rt.ld1 | apply Rt.ld2 | apply Rt.ld3 | apply Rt.ld4 | apply Rt.ld5)); first | assumption | exact Lc.kp (by assumption) (by assumption)) | ((with_reducible apply Rt.ol); first | assumption | exact cell_kp (by assumption) (by assumption)))); exact Rt.some' rfl))))
      refine Rt.ixN hV3.ev.sl (by omega) (by omega) fun y a B1 b1' b2 s k' C c1 c2 ey hv g0 g1 g2 g3 => ?_
      rw [Int.toNat_natCast, List.getElem?_map, hyi] at ey
      injection ey with ey
      subst ey
      (repeat (first | (with_reducible (first | refine Rt.fin ?_ | refine Rt.tL ?_ | refine Rt.tI ?_ | refine Rt.tB ?_ | refine Rt.tS ?_ | refine Rt.tP ?_ | refine Rt.tD ?_ | refine Rt.tM ?_ | refine Rt.tC ?_ | refine Rt.tN ?_ | refine Rt.tA ?_ | refine Rt.tG ?_ | refine Rt.tF ?_ | refine Rt.os ?_ | refine Rt.clS ?_ | refine Rt.jmN ?_ | refine Rt.jbN ?_ | refine Rt.jbE ?_)) | ((with_reducible (first | apply Rt.ld0 | apply Rt.ld1 | apply Rt.ld2 | apply Rt.ld3 | apply Rt.ld4 | apply Rt.ld5)); first | assumption | exact Lc.kp (by assumption) (by assumption)) | ((with_reducible apply Rt.ol); first | assumption | exact cell_kp (by assumption) (by assumption)) | ((with_reducible apply Rt.ckR); focus ((repeat (first | (with_reducible (first | refine Rt.fin ?_ | refine Rt.tL ?_ | refine Rt.tI ?_ | refine Rt.tB ?_ | refine Rt.tS ?_ | refine Rt.tP ?_ | refine Rt.tD ?_ | refine Rt.tM ?_ | refine Rt.tC ?_ | refine Rt.tN ?_ | refine Rt.tA ?_ | refine Rt.tG ?_ | refine Rt.tF ?_ | refine Rt.os ?_ | refine Rt.clS ?_ | refine Rt.jmN ?_ | refine Rt.jbN ?_ | refine Rt.jbE ?_)) | ((with_reducible (first | apply Rt.ld0 | apply Rt.ld1 | apply Rt.ld2 | apply Rt.ld3 | apply Rt.ld4 | apply Rt.ld5)); first | assumption | exact Lc.kp (by assumption) (by assumption)) | ((with_reducible apply Rt.ol); first | assumption | exact cell_kp (by assumption) (by assumption)))); exact Rt.some' rfl))))
      have hyl := hL _ (List.mem_of_getElem? hyi)
      have hb1 := hv.key.len
      refine Rt.cI (RCompare_spec hv.kv (hx.kp k13d).kv (by omega) (by omega)) fun w4 k4 => ?_
      refine Rt.cQ (fun e => Rt.some' (.inr ⟨rfl, rfl, k13d.tr k4, htw.2 ⟨yi, hyi, e⟩⟩)) fun e => Rt.some' (.inl ⟨rfl, rfl, k13d.tr k4, k1d.tr k4, fun h => ?_⟩)
      obtain ⟨y, hy, he⟩ := htw.1 h
      rw [hyi] at hy
      injection hy with hy
      subst hy
      exact e he
    · refine Rt.some' (.inl ⟨rfl, rfl, k13d, k1d, fun h => ?_⟩)
      obtain ⟨y, hy, he⟩ := htw.1 h
      have := (List.getElem?_eq_some_iff.1 hy).1
      omega
  rintro ⟨ex, vs, w4⟩ (⟨e1, e2, k4, k14, htwi⟩ | ⟨e1, e2, k4, htwi⟩)
  rotate_left
  · dsimp only at e1 e2 k4
    subst e1 e2
    exact .inr ⟨(by intro h; cases h), rfl, keepP (by unfold insA; rw [if_neg (fun h => h hr), if_pos htwi]) k4⟩
  dsimp only at e1 e2 k4 k14
  subst e1 e2
  refine .inl ⟨rfl, ?_⟩
  have hins : insA x H ks = (0, ks.take i ++ (x, (clampI H).toNat) :: ks.drop i) := by unfold insA; rw [if_neg (fun h => h hr), if_neg htwi, hput]
  clear hput
  have k4d := k4.dr
  have lbd := (hV.gx (T := fun _ => False) k4d.gx fun _ _ h => h).lc
  have hV4 := hV.gx (T := fun _ => False) k4d.gx fun _ _ h => h
  have led := (l1.kp k14).kp (Kp.rfl' w4).dr
  (repeat (first | (with_reducible (first | refine Rt.fin ?_ | refine Rt.tL ?_ | refine Rt.tI ?_ | refine Rt.tB ?_ | refine Rt.tS ?_ | refine Rt.tP ?_ | refine Rt.tD ?_ | refine Rt.tM ?_ | refine Rt.tC ?_ | refine Rt.tN ?_ | refine Rt.tA ?_ | refine Rt.tG ?_ | refine Rt.tF ?_ | refine Rt.os ?_ | refine Rt.clS ?_ | refine Rt.jmN ?_ | refine Rt.jbN ?_ | refine Rt.jbE ?_)) | ((with_reducible (first | apply Rt.ld0 | apply Rt.ld1 | apply Rt.ld2 | apply Rt.ld3 | apply Rt.ld4 | apply Rt.ld5)); first | assumption | exact Lc.kp (by assumption) (by assumption)) | ((with_reducible apply Rt.ol); first | assumption | exact cell_kp (by assumption) (by assumption)) | ((with_reducible apply Rt.ckR); focus ((repeat (first | (with_reducible (first | refine Rt.fin ?_ | refine Rt.tL ?_ | refine Rt.tI ?_ | refine Rt.tB ?_ | refine Rt.tS ?_ | refine Rt.tP ?_ | refine Rt.tD ?_ | refine Rt.tM ?_ | refine Rt.tC ?_ | refine Rt.tN ?_ | refine Rt.tA ?_ | refine Rt.tG ?_ | refine Rt.tF ?_ | refine Rt.os ?_ | refine Rt.clS ?_ | refine Rt.jmN ?_ | refine Rt.jbN ?_ | refine Rt.jbE ?_)) | ((with_reducible (first | apply Rt.ld0 | apply Rt.ld1 | apply Rt.ld2 | apply Rt.ld3 | apply Rt.ld4 | apply Rt.ld5)); first | assumption | exact Lc.kp (by assumption) (by assumption)) | ((with_reducible apply Rt.ol); first | assumption | exact cell_kp (by assumption) (by assumption)))); exact Rt.some' rfl))))
  have hRlt : ∀ j, R j → j < w.heap.size := fun j hj => (hV.rlo j hj).2
  have z4 := k4d.size
  have hFi : (fun j => ¬ R j ∧ j < w4.drew.heap.size) = (fun j => ¬ R j ∧ j < w4.drew.heap.size) := rfl
  refine Rt.cutX hV4.row.slx rfl (by omega) (by omega) (by omega) fun A3 hA3 => ?_
  have e0 : ((i : Int).toNat - (0 : Int).toNat) = i := by omega
  have e0' : (((ks.map Prod.fst).take (i : Int).toNat).drop (0 : Int).toNat) = (ks.map Prod.fst).take i := by simp
  rw [e0] at hA3 ⊢
  rw [e0'] at hA3
  refine Rt.appX (S := fun j => ¬ R j ∧ j < w4.drew.heap.size) rfl hT (OwnX.nil _ _ w4.drew.heap.size) (hA3.less fun k _ hk => by rcases hk with hk | hk; exact hk.1; cases hk) (by simp; omega) (Nat.le_refl _) fun A5 c5 w5 o5 g5 z5 => ?_
  have k5 : Kp w4.drew w5 := g5.kp fun k hk => by cases hk
  rw [List.nil_append] at o5
  rw [List.length_nil, Nat.zero_add] at o5 ⊢
  have lb5 := lbd.kp k5
  have le5 := led.kp k5
  (repeat (first | (with_reducible (first | refine Rt.fin ?_ | refine Rt.tL ?_ | refine Rt.tI ?_ | refine Rt.tB ?_ | refine Rt.tS ?_ | refine Rt.tP ?_ | refine Rt.tD ?_ | refine Rt.tM ?_ | refine Rt.tC ?_ | refine Rt.tN ?_ | refine Rt.tA ?_ | refine Rt.tG ?_ | refine Rt.tF ?_ | refine Rt.os ?_ | refine Rt.clS ?_ | refine Rt.jmN ?_ | refine Rt.jbN ?_ | refine Rt.jbE ?_)) | ((with_reducible (first | apply Rt.ld0 | apply Rt.ld1 | apply Rt.ld2 | apply Rt.ld3 | apply Rt.ld4 | apply Rt.ld5)); first | assumption | exact Lc.kp (by assumption) (by assumption)) | ((with_reducible apply Rt.ol); first | assumption | exact cell_kp (by assumption) (by assumption)) | ((with_reducible apply Rt.ckR); focus ((repeat (first | (with_reducible (first | refine Rt.fin ?_ | refine Rt.tL ?_ | refine Rt.tI ?_ | refine Rt.tB ?_ | refine Rt.tS ?_ | refine Rt.tP ?_ | refine Rt.tD ?_ | refine Rt.tM ?_ | refine Rt.tC ?_ | refine Rt.tN ?_ | refine Rt.tA ?_ | refine Rt.tG ?_ | refine Rt.tF ?_ | refine Rt.os ?_ | refine Rt.clS ?_ | refine Rt.jmN ?_ | refine Rt.jbN ?_ | refine Rt.jbE ?_)) | ((with_reducible (first | apply Rt.ld0 | apply Rt.ld1 | apply Rt.ld2 | apply Rt.ld3 | apply Rt.ld4 | apply Rt.ld5)); first | assumption | exact Lc.kp (by assumption) (by assumption)) | ((with_reducible apply Rt.ol); first | assumption | exact cell_kp (by assumption) (by assumption)))); exact Rt.some' rfl))))
  have k45 := k4d.tr k5
  refine Rt.cEn (Copy_spec (hx.kp k45) (by omega) (by omega)) fun A6 c6 B6 d6 w6 oK oV k6 => ?_
  have lb6 := lb5.kp k6
  have o6 := o5.kp k6
  have k46 := k45.tr k6
  (repeat (first | (with_reducible (first | refine Rt.fin ?_ | refine Rt.tL ?_ | refine Rt.tI ?_ | refine Rt.tB ?_ | refine Rt.tS ?_ | refine Rt.tP ?_ | refine Rt.tD ?_ | refine Rt.tM ?_ | refine Rt.tC ?_ | refine Rt.tN ?_ | refine Rt.tA ?_ | refine Rt.tG ?_ | refine Rt.tF ?_ | refine Rt.os ?_ | refine Rt.clS ?_ | refine Rt.jmN ?_ | refine Rt.jbN ?_ | refine Rt.jbE ?_)) | ((with_reducible (first | apply Rt.ld0 | apply Rt.ld1 | apply Rt.ld2 | apply Rt.ld3 | apply Rt.ld4 | apply Rt.ld5)); first | assumption | exact Lc.kp (by assumption) (by assumption)) | ((with_reducible apply Rt.ol); first | assumption | exact cell_kp (by assumption) (by assumption)) | ((with_reducible apply Rt.ckR); focus ((repeat (first | (with_reducible (first | refine Rt.fin ?_ | refine Rt.tL ?_ | refine Rt.tI ?_ | refine Rt.tB ?_ | refine Rt.tS ?_ | refine Rt.tP ?_ | refine Rt.tD ?_ | refine Rt.tM ?_ | refine Rt.tC ?_ | refine Rt.tN ?_ | refine Rt.tA ?_ | refine Rt.tG ?_ | refine Rt.tF ?_ | refine Rt.os ?_ | refine Rt.clS ?_ | refine Rt.jmN ?_ | refine Rt.jbN ?_ | refine Rt.jbE ?_)) | ((with_reducible (first | apply Rt.ld0 | apply Rt.ld1 | apply Rt.ld2 | apply Rt.ld3 | apply Rt.ld4 | apply Rt.ld5)); first | assumption | exact Lc.kp (by assumption) (by assumption)) | ((with_reducible apply Rt.ol); first | assumption | exact cell_kp (by assumption) (by assumption)))); exact Rt.some' rfl))))
  refine Rt.al fun w7 l7 k7 s7 => ?_
  have lb7 := lb6.kp k7
  have k47 := k46.tr k7
  have hlt5 := o5.lt
  refine Rt.app1L (x := x) rfl hT (o6.kp k7) l7 rfl (en_stbU (oK.kp k7) (oV.kp k7) hx.key.rng hx.val.rng rfl rfl hx.rs hx.rk fun j hj => ?_) (by rw [List.length_take, List.length_map]; omega) (by have := k5.size; have := k6.size; have := k7.size; omega) fun A8 c8 w8 o8 g8 z8 => ?_
  · rcases hj with hj | hj
    · have := k5.size; omega
    · have := (hlt5 j hj).2; omega
  have hon5 : ∀ k, On (.slice A5 i c5) k → w4.drew.heap.size ≤ k := fun k hk => (hlt5 k hk).1
  have k8 : Kp w4.drew w8 := ((k5.tr k6).tr k7).tx g8 hon5
  have k48 := k4d.tr k8
  have lb8 := lbd.kp k8
  have hl8 : ((ks.map Prod.fst).take i).length = i := by rw [List.length_take, List.length_map]; omega
  rw [hl8] at o8 ⊢
  (repeat (first | (with_reducible (first | refine Rt.fin ?_ | refine Rt.tL ?_ | refine Rt.tI ?_ | refine Rt.tB ?_ | refine Rt.tS ?_ | refine Rt.tP ?_ | refine Rt.tD ?_ | refine Rt.tM ?_ | refine Rt.tC ?_ | refine Rt.tN ?_ | refine Rt.tA ?_ | refine Rt.tG ?_ | refine Rt.tF ?_ | refine Rt.os ?_ | refine Rt.clS ?_ | refine Rt.jmN ?_ | refine Rt.jbN ?_ | refine Rt.jbE ?_)) | ((with_reducible (first | apply Rt.ld0 | apply Rt.ld1 | apply Rt.ld2 | apply Rt.ld3 | apply Rt.ld4 | apply Rt.ld5)); first | assumption | exact Lc.kp (by assumption) (by assumption)) | ((with_reducible apply Rt.ol); first | assumption | exact cell_kp (by assumption) (by assumption)) | ((with_reducible apply Rt.ckR); focus ((repeat (first | (with_reducible (first | refine Rt.fin ?_ | refine Rt.tL ?_ | refine Rt.tI ?_ | refine Rt.tB ?_ | refine Rt.tS ?_ | refine Rt.tP ?_ | refine Rt.tD ?_ | refine Rt.tM ?_ | refine Rt.tC ?_ | refine Rt.tN ?_ | refine Rt.tA ?_ | refine Rt.tG ?_ | refine Rt.tF ?_ | refine Rt.os ?_ | refine Rt.clS ?_ | refine Rt.jmN ?_ | refine Rt.jbN ?_ | refine Rt.jbE ?_)) | ((with_reducible (first | apply Rt.ld0 | apply Rt.ld1 | apply Rt.ld2 | apply Rt.ld3 | apply Rt.ld4 | apply Rt.ld5)); first | assumption | exact Lc.kp (by assumption) (by assumption)) | ((with_reducible apply Rt.ol); first | assumption | exact cell_kp (by assumption) (by assumption)))); exact Rt.some' rfl))))
  refine Rt.cutX ((hV4.row.slx).kp k8) rfl (by omega) (by omega) (by omega) fun A9 hA9 => ?_
  have e9 : (((ks.map Prod.fst).take (ks.length : Int).toNat).drop (i : Int).toNat) = (ks.map Prod.fst).drop i := by
    rw [Int.toNat_natCast, Int.toNat_natCast, List.take_of_length_le (by rw [List.length_map]; omega)]
  rw [e9, Int.toNat_natCast, Int.toNat_natCast] at hA9
  rw [Int.toNat_natCast, Int.toNat_natCast]
  have hlt8 := o8.lt
  refine Rt.appX rfl hT o8 (hA9.less fun k _ hk => ?_) (by rw [List.length_append, List.length_singleton, hl8]; omega) (by have := k8.size; omega) fun A10 c10 w10 o10 g10 z10 => ?_
  · rcases hk with hk | hk
    · exact hk.1
    · intro hR; have := hRlt k hR; have := (hlt8 k hk).1; omega
  have e10 : ((ks.map Prod.fst).take i ++ [x]).length + (ks.length - i) = ks.length + 1 := by rw [List.length_append, List.length_singleton, hl8]; omega
  rw [e10] at o10 ⊢
  have k10 : Kp w4.drew w10 := k8.tx g10 fun k hk => (hlt8 k hk).1
  have hbS : S b := (hSR b).2 (.inl rfl)
  have lb10 := lbd.kp k10
  (repeat (first | (with_reducible (first | refine Rt.fin ?_ | refine Rt.tL ?_ | refine Rt.tI ?_ | refine Rt.tB ?_ | refine Rt.tS ?_ | refine Rt.tP ?_ | refine Rt.tD ?_ | refine Rt.tM ?_ | refine Rt.tC ?_ | refine Rt.tN ?_ | refine Rt.tA ?_ | refine Rt.tG ?_ | refine Rt.tF ?_ | refine Rt.os ?_ | refine Rt.clS ?_ | refine Rt.jmN ?_ | refine Rt.jbN ?_ | refine Rt.jbE ?_)) | ((with_reducible (first | apply Rt.ld0 | apply Rt.ld1 | apply Rt.ld2 | apply Rt.ld3 | apply Rt.ld4 | apply Rt.ld5)); first | assumption | exact Lc.kp (by assumption) (by assumption)) | ((with_reducible apply Rt.ol); first | assumption | exact cell_kp (by assumption) (by assumption)) | ((with_reducible apply Rt.ckR); focus ((repeat (first | (with_reducible (first | refine Rt.fin ?_ | refine Rt.tL ?_ | refine Rt.tI ?_ | refine Rt.tB ?_ | refine Rt.tS ?_ | refine Rt.tP ?_ | refine Rt.tD ?_ | refine Rt.tM ?_ | refine Rt.tC ?_ | refine Rt.tN ?_ | refine Rt.tA ?_ | refine Rt.tG ?_ | refine Rt.tF ?_ | refine Rt.os ?_ | refine Rt.clS ?_ | refine Rt.jmN ?_ | refine Rt.jbN ?_ | refine Rt.jbE ?_)) | ((with_reducible (first | apply Rt.ld0 | apply Rt.ld1 | apply Rt.ld2 | apply Rt.ld3 | apply Rt.ld4 | apply Rt.ld5)); first | assumption | exact Lc.kp (by assumption) (by assumption)) | ((with_reducible apply Rt.ol); first | assumption | exact cell_kp (by assumption) (by assumption)))); exact Rt.some' rfl))))
  refine Rt.st0 lb10 fun w11 lb11 g11 => ?_
  have lb11d := lb11.kp (Kp.rfl' w11).dr
  have hb11 : (w11.drew.heap.size = w11.heap.size) := rfl
  have g11d : Gx (fun k => k = b) w10 w11.drew := g11.dr
  have gB : Gx (fun k => k = b) w4.drew w11.drew := k10.gx.tr g11d
  (repeat (first | (with_reducible (first | refine Rt.fin ?_ | refine Rt.tL ?_ | refine Rt.tI ?_ | refine Rt.tB ?_ | refine Rt.tS ?_ | refine Rt.tP ?_ | refine Rt.tD ?_ | refine Rt.tM ?_ | refine Rt.tC ?_ | refine Rt.tN ?_ | refine Rt.tA ?_ | refine Rt.tG ?_ | refine Rt.tF ?_ | refine Rt.os ?_ | refine Rt.clS ?_ | refine Rt.jmN ?_ | refine Rt.jbN ?_ | refine Rt.jbE ?_)) | ((with_reducible (first | apply Rt.ld0 | apply Rt.ld1 | apply Rt.ld2 | apply Rt.ld3 | apply Rt.ld4 | apply Rt.ld5)); first | assumption | exact Lc.kp (by assumption) (by assumption)) | ((with_reducible apply Rt.ol); first | assumption | exact cell_kp (by assumption) (by assumption)) | ((with_reducible apply Rt.ckR); focus ((repeat (first | (with_reducible (first | refine Rt.fin ?_ | refine Rt.tL ?_ | refine Rt.tI ?_ | refine Rt.tB ?_ | refine Rt.tS ?_ | refine Rt.tP ?_ | refine Rt.tD ?_ | refine Rt.tM ?_ | refine Rt.tC ?_ | refine Rt.tN ?_ | refine Rt.tA ?_ | refine Rt.tG ?_ | refine Rt.tF ?_ | refine Rt.os ?_ | refine Rt.clS ?_ | refine Rt.jmN ?_ | refine Rt.jbN ?_ | refine Rt.jbE ?_)) | ((with_reducible (first | apply Rt.ld0 | apply Rt.ld1 | apply Rt.ld2 | apply Rt.ld3 | apply Rt.ld4 | apply Rt.ld5)); first | assumption | exact Lc.kp (by assumption) (by assumption)) | ((with_reducible apply Rt.ol); first | assumption | exact cell_kp (by assumption) (by assumption)))); exact Rt.some' rfl))))
  have hblt := lbd.lt
  have hbn : ¬ R b := hV4.rb
  have oH := hV4.hts.gx gB fun j hj e => by subst e; exact hbn (hV4.onB _ hj)
  have hwf := ht_wf hok
  refine Rt.cut (oH.bv hwf) (by omega) (by omega) (by omega) fun A12 hA12 => ?_
  rw [e0] at hA12 ⊢
  have e12 : (((htA ks).take (i : Int).toNat).drop (0 : Int).toNat) = (htA ks).take i := by simp
  rw [e12] at hA12
  refine Rt.app0 hTI hA12.sl hA12.nil (by omega) fun A13 c13 w13 o13 k13' => ?_
  have lb13 := lb11d.kp k13'
  (repeat (first | (with_reducible (first | refine Rt.fin ?_ | refine Rt.tL ?_ | refine Rt.tI ?_ | refine Rt.tB ?_ | refine Rt.tS ?_ | refine Rt.tP ?_ | refine Rt.tD ?_ | refine Rt.tM ?_ | refine Rt.tC ?_ | refine Rt.tN ?_ | refine Rt.tA ?_ | refine Rt.tG ?_ | refine Rt.tF ?_ | refine Rt.os ?_ | refine Rt.clS ?_ | refine Rt.jmN ?_ | refine Rt.jbN ?_ | refine Rt.jbE ?_)) | ((with_reducible (first | apply Rt.ld0 | apply Rt.ld1 | apply Rt.ld2 | apply Rt.ld3 | apply Rt.ld4 | apply Rt.ld5)); first | assumption | exact Lc.kp (by assumption) (by assumption)) | ((with_reducible apply Rt.ol); first | assumption | exact cell_kp (by assumption) (by assumption)) | ((with_reducible apply Rt.ckR); focus ((repeat (first | (with_reducible (first | refine Rt.fin ?_ | refine Rt.tL ?_ | refine Rt.tI ?_ | refine Rt.tB ?_ | refine Rt.tS ?_ | refine Rt.tP ?_ | refine Rt.tD ?_ | refine Rt.tM ?_ | refine Rt.tC ?_ | refine Rt.tN ?_ | refine Rt.tA ?_ | refine Rt.tG ?_ | refine Rt.tF ?_ | refine Rt.os ?_ | refine Rt.clS ?_ | refine Rt.jmN ?_ | refine Rt.jbN ?_ | refine Rt.jbE ?_)) | ((with_reducible (first | apply Rt.ld0 | apply Rt.ld1 | apply Rt.ld2 | apply Rt.ld3 | apply Rt.ld4 | apply Rt.ld5)); first | assumption | exact Lc.kp (by assumption) (by assumption)) | ((with_reducible apply Rt.ol); first | assumption | exact cell_kp (by assumption) (by assumption)))); exact Rt.some' rfl))))
  refine Rt.cI between_spec fun w14 k14' => ?_
  have lb14 := lb13.kp k14'
  have o14 := o13.kp k14'
  have hcl := clampI_in H
  refine Rt.al fun w15 l15 k15 s15 => ?_
  have lb15 := lb14.kp k15
  have hlt13 := o13.lt
  have hl13 : ((htA ks).take i).length = i := by rw [List.length_take, hfl]; omega
  refine Rt.push hTI (o14.kp k15) l15 (by rw [hl13]; omega) (by have := k13'.size; have := k14'.size; have := k15.size; omega) fun A16 c16 w16 o16 f16 g16 => ?_
  have k16 : Kp w11.drew w16 := ((k13'.tr k14').tr k15).tx g16 fun k hk => (hlt13 k hk).1
  have lb16 := lb11d.kp k16
  rw [hl13] at o16 ⊢
  (repeat (first | (with_reducible (first | refine Rt.fin ?_ | refine Rt.tL ?_ | refine Rt.tI ?_ | refine Rt.tB ?_ | refine Rt.tS ?_ | refine Rt.tP ?_ | refine Rt.tD ?_ | refine Rt.tM ?_ | refine Rt.tC ?_ | refine Rt.tN ?_ | refine Rt.tA ?_ | refine Rt.tG ?_ | refine Rt.tF ?_ | refine Rt.os ?_ | refine Rt.clS ?_ | refine Rt.jmN ?_ | refine Rt.jbN ?_ | refine Rt.jbE ?_)) | ((with_reducible (first | apply Rt.ld0 | apply Rt.ld1 | apply Rt.ld2 | apply Rt.ld3 | apply Rt.ld4 | apply Rt.ld5)); first | assumption | exact Lc.kp (by assumption) (by assumption)) | ((with_reducible apply Rt.ol); first | assumption | exact cell_kp (by assumption) (by assumption)) | ((with_reducible apply Rt.ckR); focus ((repeat (first | (with_reducible (first | refine Rt.fin ?_ | refine Rt.tL ?_ | refine Rt.tI ?_ | refine Rt.tB ?_ | refine Rt.tS ?_ | refine Rt.tP ?_ | refine Rt.tD ?_ | refine Rt.tM ?_ | refine Rt.tC ?_ | refine Rt.tN ?_ | refine Rt.tA ?_ | refine Rt.tG ?_ | refine Rt.tF ?_ | refine Rt.os ?_ | refine Rt.clS ?_ | refine Rt.jmN ?_ | refine Rt.jbN ?_ | refine Rt.jbE ?_)) | ((with_reducible (first | apply Rt.ld0 | apply Rt.ld1 | apply Rt.ld2 | apply Rt.ld3 | apply Rt.ld4 | apply Rt.ld5)); first | assumption | exact Lc.kp (by assumption) (by assumption)) | ((with_reducible apply Rt.ol); first | assumption | exact cell_kp (by assumption) (by assumption)))); exact Rt.some' rfl))))
  refine Rt.cut ((oH.kp k16).bv hwf) (by omega) (by omega) (by omega) fun A17 hA17 => ?_
  have e17 : (((htA ks).take (ks.length : Int).toNat).drop (i : Int).toNat) = (htA ks).drop i := by
    rw [Int.toNat_natCast, Int.toNat_natCast, List.take_of_length_le (by omega)]
  rw [e17, Int.toNat_natCast, Int.toNat_natCast] at hA17
  rw [Int.toNat_natCast, Int.toNat_natCast]
  have hlt16 := o16.lt
  refine Rt.appO hTI o16 hA17.sl hA17.nil (by rw [List.length_append, List.length_singleton, hl13]; omega) (by have := k16.size; omega) fun A18 c18 w18 o18 f18 g18 => ?_
  have e18 : ((htA ks).take i ++ [clampI H]).length + (ks.length - i) = ks.length + 1 := by rw [List.length_append, List.length_singleton, hl13]; omega
  rw [e18] at o18 ⊢
  have k18 : Kp w11.drew w18 := k16.tx g18 fun k hk => (hlt16 k hk).1
  have lb18 := lb11d.kp k18
  (repeat (first | (with_reducible (first | refine Rt.fin ?_ | refine Rt.tL ?_ | refine Rt.tI ?_ | refine Rt.tB ?_ | refine Rt.tS ?_ | refine Rt.tP ?_ | refine Rt.tD ?_ | refine Rt.tM ?_ | refine Rt.tC ?_ | refine Rt.tN ?_ | refine Rt.tA ?_ | refine Rt.tG ?_ | refine Rt.tF ?_ | refine Rt.os ?_ | refine Rt.clS ?_ | refine Rt.jmN ?_ | refine Rt.jbN ?_ | refine Rt.jbE ?_)) | ((with_reducible (first | apply Rt.ld0 | apply Rt.ld1 | apply Rt.ld2 | apply Rt.ld3 | apply Rt.ld4 | apply Rt.ld5)); first | assumption | exact Lc.kp (by assumption) (by assumption)) | ((with_reducible apply Rt.ol); first | assumption | exact cell_kp (by assumption) (by assumption)) | ((with_reducible apply Rt.ckR); focus ((repeat (first | (with_reducible (first | refine Rt.fin ?_ | refine Rt.tL ?_ | refine Rt.tI ?_ | refine Rt.tB ?_ | refine Rt.tS ?_ | refine Rt.tP ?_ | refine Rt.tD ?_ | refine Rt.tM ?_ | refine Rt.tC ?_ | refine Rt.tN ?_ | refine Rt.tA ?_ | refine Rt.tG ?_ | refine Rt.tF ?_ | refine Rt.os ?_ | refine Rt.clS ?_ | refine Rt.jmN ?_ | refine Rt.jbN ?_ | refine Rt.jbE ?_)) | ((with_reducible (first | apply Rt.ld0 | apply Rt.ld1 | apply Rt.ld2 | apply Rt.ld3 | apply Rt.ld4 | apply Rt.ld5)); first | assumption | exact Lc.kp (by assumption) (by assumption)) | ((with_reducible apply Rt.ol); first | assumption | exact cell_kp (by assumption) (by assumption)))); exact Rt.some' rfl))))
  refine Rt.st1 lb18 fun w19 lb19 g19 => ?_
  rw [hins]
  have gAll : Gx (fun k => k = b) w4.drew w19 := (gB.tr k18.gx).tr g19
  have hz19 : w4.drew.heap.size ≤ w19.heap.size := gAll.size
  have hz11 : w4.drew.heap.size ≤ w11.drew.heap.size := gB.size
  have hz10 : w10.heap.size ≤ w11.drew.heap.size := g11d.size
  have hz18 := k18.size
  have hz1819 := g19.size
  refine Rt.some' ⟨rfl, w19, fun j => j = b ∨ R j ∨ (w4.drew.heap.size ≤ j ∧ j < w19.heap.size), rfl, (k4d.gx (S := S)).tr (gAll.wide fun k _ e => by rw [e]; exact hbS), fun j hj => ?_, fun j => R j ∨ (w4.drew.heap.size ≤ j ∧ j < w19.heap.size), A10, c10, A18, c18, ⟨hV.lo, ?_, ?_, ?_, fun j hj => ?_, fun e => ?_, fun j hj => ?_, fun j hj => ?_⟩, fun j => Iff.rfl⟩
  · rcases hj with e | e | e
    · exact .inl ((hSR j).2 (.inl e))
    · exact .inl ((hSR j).2 (.inr e))
    · exact .inr (by omega)
  · have : (ks.take i ++ (x, (clampI H).toNat) :: ks.drop i).length = ks.length + 1 := by rw [List.length_append, List.length_cons, List.length_take, List.length_drop]; omega
    rw [this]; exact lb19
  · have e : (ks.take i ++ (x, (clampI H).toNat) :: ks.drop i).map Prod.fst = (ks.map Prod.fst).take i ++ [x] ++ (ks.map Prod.fst).drop i := by simp [List.map_take, List.map_drop]
    have el : (ks.take i ++ (x, (clampI H).toNat) :: ks.drop i).length = ks.length + 1 := by rw [List.length_append, List.length_cons, List.length_take, List.length_drop]; omega
    rw [e, el]
    have hlt10 := o10.lt
    have gL : Gx (fun k => k = b) w10 w19 := (g11d.tr k18.gx).tr g19
    have o19 := o10.gx gL (fun k _ e => by subst e; exact ⟨hbn, hblt⟩) fun k e ho => by subst e; have := (hlt10 _ ho).1; omega
    refine (o19.lessw fun k hk hF => ?_).mono (by omega)
    have hF : ¬ (R k ∨ (w4.drew.heap.size ≤ k ∧ k < w19.heap.size)) := hF
    exact ⟨fun hR => hF (.inl hR), by rcases Nat.lt_or_ge k w4.drew.heap.size with h | h; exact h; exact absurd (.inr ⟨h, hk⟩) hF⟩
  · have e : htA (ks.take i ++ (x, (clampI H).toNat) :: ks.drop i) = (htA ks).take i ++ [clampI H] ++ (htA ks).drop i := by
      have : (((clampI H).toNat : Nat) : Int) = clampI H := by omega
      simp [htA, List.map_take, List.map_drop, this]
    have el : (ks.take i ++ (x, (clampI H).toNat) :: ks.drop i).length = ks.length + 1 := by rw [List.length_append, List.length_cons, List.length_take, List.length_drop]; omega
    rw [e, el]
    have hlt18 := o18.lt
    exact (o18.gx g19 fun j hj e => by subst e; have := (hlt18 _ hj).1; omega).mono (by omega)
  · rcases hj with hj | hj
    · have := hV.rlo j hj; omega
    · omega
  · rcases e with e | e
    · exact hbn e
    · omega
  · have el : (ks.take i ++ (x, (clampI H).toNat) :: ks.drop i).length = ks.length + 1 := by rw [List.length_append, List.length_cons, List.length_take, List.length_drop]; omega
    rw [el] at hj
    have := o10.lt j hj
    exact .inr (by omega)
  · have el : (ks.take i ++ (x, (clampI H).toNat) :: ks.drop i).length = ks.length + 1 := by rw [List.length_append, List.length_cons, List.length_take, List.length_drop]; omega
    rw [el] at hj
    have := o18.lt j hj
    exact .inr (by omega)
end
end Go.Proofs.Ytoilmnplocfipaa.Sk
