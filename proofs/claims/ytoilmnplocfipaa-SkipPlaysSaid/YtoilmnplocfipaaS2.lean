/- A sorted buffer: the way down. -/
import Derived.Test.YtoilmnplocfipaaSH
namespace Go.Proofs.Ytoilmnplocfipaa.Sk
open Go Big Go.RowKit Go.IntWalk Ik
set_option linter.unusedVariables false
set_option linter.unusedSimpArgs false
noncomputable def cp12 (w : World) (b5 b4 : Nat) : Option Res := opt (w.cell? ⟨b5, 0, none⟩) fun vn0 => Big.tI .i64 vn0 fun n0 => opt (w.cell? (Addr.add ⟨b5, 0, none⟩ 1)) fun vn1 => Big.tI .i64 vn1 fun n1 => opt (w.cell? (Addr.add ⟨b5, 0, none⟩ 2)) fun vn2 => Big.tI .i64 vn2 fun n2 => opt (w.cell? (Addr.add ⟨b5, 0, none⟩ 3)) fun vn3 => Big.tI .i64 vn3 fun n3 => opt (w.cell? (Addr.add ⟨b5, 0, none⟩ 4)) fun vn4 => Big.tI .i64 vn4 fun n4 => opt (w.cell? (Addr.add ⟨b5, 0, none⟩ 5)) fun vn5 => Big.tI .i64 vn5 fun n5 => opt (w.cell? (Addr.add ⟨b5, 0, none⟩ 6)) fun vn6 => Big.tI .i64 vn6 fun n6 => opt (w.cell? (Addr.add ⟨b5, 0, none⟩ 7)) fun vn7 => Big.tI .i64 vn7 fun n7 => opt (w.cell? (Addr.add ⟨b5, 0, none⟩ 8)) fun vn8 => Big.tI .i64 vn8 fun n8 => opt (w.cell? (Addr.add ⟨b5, 0, none⟩ 9)) fun vn9 => Big.tI .i64 vn9 fun n9 => opt (w.cell? (Addr.add ⟨b5, 0, none⟩ 10)) fun vn10 => Big.tI .i64 vn10 fun n10 => opt (w.cell? (Addr.add ⟨b5, 0, none⟩ 11)) fun vn11 => Big.tI .i64 vn11 fun n11 => stC w ⟨b4, 0, none⟩ (Value.int .i64 n0) fun w0 => stC w0 (Addr.add ⟨b4, 0, none⟩ 1) (Value.int .i64 n1) fun w1 => stC w1 (Addr.add ⟨b4, 0, none⟩ 2) (Value.int .i64 n2) fun w2 => stC w2 (Addr.add ⟨b4, 0, none⟩ 3) (Value.int .i64 n3) fun w3 => stC w3 (Addr.add ⟨b4, 0, none⟩ 4) (Value.int .i64 n4) fun w4 => stC w4 (Addr.add ⟨b4, 0, none⟩ 5) (Value.int .i64 n5) fun w5 => stC w5 (Addr.add ⟨b4, 0, none⟩ 6) (Value.int .i64 n6) fun w6 => stC w6 (Addr.add ⟨b4, 0, none⟩ 7) (Value.int .i64 n7) fun w7 => stC w7 (Addr.add ⟨b4, 0, none⟩ 8) (Value.int .i64 n8) fun w8 => stC w8 (Addr.add ⟨b4, 0, none⟩ 9) (Value.int .i64 n9) fun w9 => stC w9 (Addr.add ⟨b4, 0, none⟩ 10) (Value.int .i64 n10) fun w10 => stC w10 (Addr.add ⟨b4, 0, none⟩ 11) (Value.int .i64 n11) fun w11 => opt (w11.cell? ⟨b4, 0, none⟩) fun vz0 => Big.tI .i64 vz0 fun z0 => opt (w11.cell? (Addr.add ⟨b4, 0, none⟩ 1)) fun vz1 => Big.tI .i64 vz1 fun z1 => opt (w11.cell? (Addr.add ⟨b4, 0, none⟩ 2)) fun vz2 => Big.tI .i64 vz2 fun z2 => opt (w11.cell? (Addr.add ⟨b4, 0, none⟩ 3)) fun vz3 => Big.tI .i64 vz3 fun z3 => opt (w11.cell? (Addr.add ⟨b4, 0, none⟩ 4)) fun vz4 => Big.tI .i64 vz4 fun z4 => opt (w11.cell? (Addr.add ⟨b4, 0, none⟩ 5)) fun vz5 => Big.tI .i64 vz5 fun z5 => opt (w11.cell? (Addr.add ⟨b4, 0, none⟩ 6)) fun vz6 => Big.tI .i64 vz6 fun z6 => opt (w11.cell? (Addr.add ⟨b4, 0, none⟩ 7)) fun vz7 => Big.tI .i64 vz7 fun z7 => opt (w11.cell? (Addr.add ⟨b4, 0, none⟩ 8)) fun vz8 => Big.tI .i64 vz8 fun z8 => opt (w11.cell? (Addr.add ⟨b4, 0, none⟩ 9)) fun vz9 => Big.tI .i64 vz9 fun z9 => opt (w11.cell? (Addr.add ⟨b4, 0, none⟩ 10)) fun vz10 => Big.tI .i64 vz10 fun z10 => opt (w11.cell? (Addr.add ⟨b4, 0, none⟩ 11)) fun vz11 => Big.tI .i64 vz11 fun z11 => some ⟨.ret, [Value.agg #[Value.int .i64 z0, Value.int .i64 z1, Value.int .i64 z2, Value.int .i64 z3, Value.int .i64 z4, Value.int .i64 z5, Value.int .i64 z6, Value.int .i64 z7, Value.int .i64 z8, Value.int .i64 z9, Value.int .i64 z10, Value.int .i64 z11]], w11⟩
def v12 (f : Nat → Int) : List Value := [.int .i64 (f 0), .int .i64 (f 1), .int .i64 (f 2), .int .i64 (f 3), .int .i64 (f 4), .int .i64 (f 5), .int .i64 (f 6), .int .i64 (f 7), .int .i64 (f 8), .int .i64 (f 9), .int .i64 (f 10), .int .i64 (f 11)]
section
variable {α : Type} {n base b b3 b4 b5 : Nat} {w w' w0 : World} {S T R : Nat → Prop} {s : St} {ord : List Nat} {k : Key}
theorem cp12_spec {out l4 : List Value} {f : Nat → Int} (h5 : Lc w b5 out) (h4 : Lc w b4 l4) (hl : l4.length = 12) (hf : ∀ j, j < 12 → out[j]? = some (.int .i64 (f j))) (hw0 : w0.heap.size ≤ b4) (hk : Kp w0 w) :
    Rt (cp12 w b5 b4) fun r => r.ex = .ret ∧ r.vals = [.agg (v12 f).toArray] ∧ Kp w0 r.w := by
  match l4, hl with
  | [y0, y1, y2, y3, y4, y5, y6, y7, y8, y9, y10, y11], _ =>
  unfold cp12
  refine Rt.ol (by rw [h5.ld]; exact hf 0 (by decide)) (Rt.tI ?_)
  refine Rt.ldn h5 (hf 1 (by decide)) (Rt.tI ?_)
  refine Rt.ldn h5 (hf 2 (by decide)) (Rt.tI ?_)
  refine Rt.ldn h5 (hf 3 (by decide)) (Rt.tI ?_)
  refine Rt.ldn h5 (hf 4 (by decide)) (Rt.tI ?_)
  refine Rt.ldn h5 (hf 5 (by decide)) (Rt.tI ?_)
  refine Rt.ldn h5 (hf 6 (by decide)) (Rt.tI ?_)
  refine Rt.ldn h5 (hf 7 (by decide)) (Rt.tI ?_)
  refine Rt.ldn h5 (hf 8 (by decide)) (Rt.tI ?_)
  refine Rt.ldn h5 (hf 9 (by decide)) (Rt.tI ?_)
  refine Rt.ldn h5 (hf 10 (by decide)) (Rt.tI ?_)
  refine Rt.ldn h5 (hf 11 (by decide)) (Rt.tI ?_)
  have k0 := hk
  refine Rt.stb h4 (by simp) fun w0 l0 g0 => ?_
  have k1 := k0.tx g0 fun j hj => by omega
  refine Rt.stn l0 (by simp) fun w1 l1 g1 => ?_
  have k2 := k1.tx g1 fun j hj => by omega
  refine Rt.stn l1 (by simp) fun w2 l2 g2 => ?_
  have k3 := k2.tx g2 fun j hj => by omega
  refine Rt.stn l2 (by simp) fun w3 l3 g3 => ?_
  have k4 := k3.tx g3 fun j hj => by omega
  refine Rt.stn l3 (by simp) fun w4 l4 g4 => ?_
  have k5 := k4.tx g4 fun j hj => by omega
  refine Rt.stn l4 (by simp) fun w5 l5 g5 => ?_
  have k6 := k5.tx g5 fun j hj => by omega
  refine Rt.stn l5 (by simp) fun w6 l6 g6 => ?_
  have k7 := k6.tx g6 fun j hj => by omega
  refine Rt.stn l6 (by simp) fun w7 l7 g7 => ?_
  have k8 := k7.tx g7 fun j hj => by omega
  refine Rt.stn l7 (by simp) fun w8 l8 g8 => ?_
  have k9 := k8.tx g8 fun j hj => by omega
  refine Rt.stn l8 (by simp) fun w9 l9 g9 => ?_
  have k10 := k9.tx g9 fun j hj => by omega
  refine Rt.stn l9 (by simp) fun w10 l10 g10 => ?_
  have k11 := k10.tx g10 fun j hj => by omega
  refine Rt.stn l10 (by simp) fun w11 l11 g11 => ?_
  have k12 := k11.tx g11 fun j hj => by omega
  refine Rt.ol (by rw [l11.ld]; rfl) (Rt.tI ?_)
  refine Rt.ldn l11 rfl (Rt.tI ?_)
  refine Rt.ldn l11 rfl (Rt.tI ?_)
  refine Rt.ldn l11 rfl (Rt.tI ?_)
  refine Rt.ldn l11 rfl (Rt.tI ?_)
  refine Rt.ldn l11 rfl (Rt.tI ?_)
  refine Rt.ldn l11 rfl (Rt.tI ?_)
  refine Rt.ldn l11 rfl (Rt.tI ?_)
  refine Rt.ldn l11 rfl (Rt.tI ?_)
  refine Rt.ldn l11 rfl (Rt.tI ?_)
  refine Rt.ldn l11 rfl (Rt.tI ?_)
  refine Rt.ldn l11 rfl (Rt.tI ?_)
  exact Rt.some' ⟨rfl, rfl, k12⟩
theorem path_g0 {kA : Option Addr} {kl kc : Nat} {ks kk : Int} (h : Sk w base b S s) (hi : Inv s ord) (hk : KeyV w kA kl kc ks kk k) (hn : 10 < n) (h3w : w.heap.size ≤ b3) (h4w : w.heap.size ≤ b4) (h5w : w.heap.size ≤ b5) (h35 : b3 ≠ b5) (h45 : b4 ≠ b5) :
    ∀ (fuel i m : Nat) (p t : List Nat) (w' : World) (out l4 : List Value), chain s ord i = p ++ t → (∀ x ∈ p, bel s k x = true) → i < 12 → i * (s.nodes.length + 2) + t.length + 1 ≤ fuel → fuel ≤ m → Kp w w' → Lc w' b3 [.slice kA kl kc, .int .u64 ks, .int .i64 kk] → Lc w' b4 l4 → l4.length = 12 → Lc w' b5 out → out.length = 12 →
      (∀ j, i < j → j < 12 → out[j]? = some (.int .i64 (en (pth s ord k j)))) →
      Rt (skip_List_path.g0 n m (some ⟨b, 0, none⟩) ⟨b3, 0, none⟩ ⟨b4, 0, none⟩ ⟨b5, 0, none⟩ (en (lastI p)) (i : Int) w') fun r => r.ex = .ret ∧ r.vals = [.agg (v12 fun j => en (pth s ord k j)).toArray] ∧ Kp w r.w := by
  intro fuel
  induction fuel with
  | zero => intro i m p t w' out l4 _ _ _ hf; omega
  | succ fuel ih =>
    intro i m p t w' out l4 hc hp hi12 hf hm hkw l3 l4' hl4 l5 hl5 hout
    obtain ⟨m, rfl⟩ : ∃ m', m = m' + 1 := ⟨m - 1, by omega⟩
    -- the level is done
    have done : ∀ w2, Kp w w2 → Lc w2 b3 [.slice kA kl kc, .int .u64 ks, .int .i64 kk] → Lc w2 b4 l4 → Lc w2 b5 out → (t = [] ∨ ∃ x r, t = x :: r ∧ bel s k x = false) →
        Rt (ixR ⟨b5, 0, none⟩ 12 (i : Int) 1 fun ad => stC w2 ad (.int .i64 (en (lastI p))) fun w69 => cond (decide ((i : Int) > 0)) (skip_List_path.g0 n m (some ⟨b, 0, none⟩) ⟨b3, 0, none⟩ ⟨b4, 0, none⟩ ⟨b5, 0, none⟩ (en (lastI p)) (IntKind.i64.wrap ((i : Int) - 1)) w69) (cp12 w69 b5 b4)) fun r => r.ex = .ret ∧ r.vals = [.agg (v12 fun j => en (pth s ord k j)).toArray] ∧ Kp w r.w := by
      intro w2 k2 m3 m4 m5 ht
      have hpth : pth s ord k i = lastI p := by rw [pth, tw_of_split hc hp ht]
      refine Rt.ixRb (by omega) (by omega) ?_
      rw [Int.toNat_natCast]
      refine Rt.stb m5 (by omega) fun w3 m5' g3 => ?_
      have k3 := k2.tx g3 fun j hj => by omega
      have m3' := m3.gx g3 h35
      have m4' := m4.gx g3 h45
      have hout' : ∀ j, (i = 0 ∨ i - 1 < j) → j < 12 → (out.set i (.int .i64 (en (lastI p))))[j]? = some (.int .i64 (en (pth s ord k j))) := by
        intro j hj hj12
        by_cases hij : i = j
        · subst hij; rw [List.getElem?_set_self (by omega), hpth]
        · rw [List.getElem?_set_ne hij]; exact hout j (by omega) hj12
      cases i with
      | zero =>
        refine Rt.cDF (by omega) ?_
        exact cp12_spec m5' m4' hl4 (fun j hj => hout' j (.inl rfl) hj) h4w k3
      | succ i =>
        refine Rt.cDT (by omega) ?_
        obtain ⟨p', t', e1, e2, e3⟩ := descend hi hc hp
        rw [i64_in _ (by omega), show ((i + 1 : Nat) : Int) - 1 = (i : Int) by omega, ← e3]
        have hcl := chain_len (j := i) hi
        rw [e1, List.length_append] at hcl
        rw [Nat.add_mul, Nat.one_mul] at hf
        exact ih i m p' t' w3 _ l4 e1 e2 (by omega) (by omega) (by omega) k3 m3' m4' hl4 m5' (by rw [List.length_set]; exact hl5) fun j hj hj12 => hout' j (.inr (by omega)) hj12
    rw [skip_List_path.g0_succ]
    have hL := hi.lnk i hi12
    rw [hc] at hL
    have hA := hL.behind
    obtain ⟨_, e, rfl⟩ := after_spec (n := n) (h.kp hkw) hA.hd hi12
    refine Rt.cl e ?_
    (repeat (first | (with_reducible (first | refine Rt.fin ?_ | refine Rt.tL ?_ | refine Rt.tI ?_ | refine Rt.tB ?_ | refine Rt.tS ?_ | refine Rt.tP ?_ | refine Rt.tD ?_ | refine Rt.tM ?_ | refine Rt.tC ?_ | refine Rt.tN ?_ | refine Rt.tA ?_ | refine Rt.tG ?_ | refine Rt.tF ?_ | refine Rt.os ?_ | refine Rt.clS ?_ | refine Rt.jmN ?_ | refine Rt.jbN ?_ | refine Rt.jbE ?_)) | ((with_reducible (first | apply Rt.ld0 | apply Rt.ld1 | apply Rt.ld2 | apply Rt.ld3 | apply Rt.ld4 | apply Rt.ld5)); first | assumption | exact Lc.kp (by assumption) (by assumption)) | ((with_reducible apply Rt.ol); first | assumption | exact cell_kp (by assumption) (by assumption)) | ((with_reducible apply Rt.ckR); focus ((repeat (first | (with_reducible (first | refine Rt.fin ?_ | refine Rt.tL ?_ | refine Rt.tI ?_ | refine Rt.tB ?_ | refine Rt.tS ?_ | refine Rt.tP ?_ | refine Rt.tD ?_ | refine Rt.tM ?_ | refine Rt.tC ?_ | refine Rt.tN ?_ | refine Rt.tA ?_ | refine Rt.tG ?_ | refine Rt.tF ?_ | refine Rt.os ?_ | refine Rt.clS ?_ | refine Rt.jmN ?_ | refine Rt.jbN ?_ | refine Rt.jbE ?_)) | ((with_reducible (first | apply Rt.ld0 | apply Rt.ld1 | apply Rt.ld2 | apply Rt.ld3 | apply Rt.ld4 | apply Rt.ld5)); first | assumption | exact Lc.kp (by assumption) (by assumption)) | ((with_reducible apply Rt.ol); first | assumption | exact cell_kp (by assumption) (by assumption)))); exact Rt.some' rfl))))
    refine Rt.cN (fun hx => ?_) fun hx => ?_
    · have : t = [] := by
        cases t with
        | nil => rfl
        | cons x r => simp [Sk.hd, en] at hx
      exact done _ hkw.dr l3.dr' l4'.dr' l5.dr' (.inl this)
    · cases t with
      | nil => exact absurd rfl hx
      | cons x r =>
        have hxm : x ∈ chain s ord i := by rw [hc]; simp
        obtain ⟨y, hy, _⟩ := chain_mem hi hxm
        obtain ⟨R, A, c, nv, hV, _⟩ := h.kp hkw.dr
        refine Rt.os (Rt.ldn hV.lc (blk_12 s _ _ _ hV.fst) (Rt.tL ?_))
        refine Rt.ixNd hV hy fun a v hv hd c0 c1 c2 c3 c4 => ?_
        have l3d := l3.dr'
        (repeat (first | (with_reducible (first | refine Rt.fin ?_ | refine Rt.tL ?_ | refine Rt.tI ?_ | refine Rt.tB ?_ | refine Rt.tS ?_ | refine Rt.tP ?_ | refine Rt.tD ?_ | refine Rt.tM ?_ | refine Rt.tC ?_ | refine Rt.tN ?_ | refine Rt.tA ?_ | refine Rt.tG ?_ | refine Rt.tF ?_ | refine Rt.os ?_ | refine Rt.clS ?_ | refine Rt.jmN ?_ | refine Rt.jbN ?_ | refine Rt.jbE ?_)) | ((with_reducible (first | apply Rt.ld0 | apply Rt.ld1 | apply Rt.ld2 | apply Rt.ld3 | apply Rt.ld4 | apply Rt.ld5)); first | assumption | exact Lc.kp (by assumption) (by assumption)) | ((with_reducible apply Rt.ol); first | assumption | exact cell_kp (by assumption) (by assumption)) | ((with_reducible apply Rt.ckR); focus ((repeat (first | (with_reducible (first | refine Rt.fin ?_ | refine Rt.tL ?_ | refine Rt.tI ?_ | refine Rt.tB ?_ | refine Rt.tS ?_ | refine Rt.tP ?_ | refine Rt.tD ?_ | refine Rt.tM ?_ | refine Rt.tC ?_ | refine Rt.tN ?_ | refine Rt.tA ?_ | refine Rt.tG ?_ | refine Rt.tF ?_ | refine Rt.os ?_ | refine Rt.clS ?_ | refine Rt.jmN ?_ | refine Rt.jbN ?_ | refine Rt.jbE ?_)) | ((with_reducible (first | apply Rt.ld0 | apply Rt.ld1 | apply Rt.ld2 | apply Rt.ld3 | apply Rt.ld4 | apply Rt.ld5)); first | assumption | exact Lc.kp (by assumption) (by assumption)) | ((with_reducible apply Rt.ol); first | assumption | exact cell_kp (by assumption) (by assumption)))); exact Rt.some' rfl))))
        refine Rt.cI (Compare_spec hn hd.ent.out.kv (hk.kp hkw.dr)) fun w3 k3 => ?_
        have k03 := hkw.dr.tr k3
        have hky : ky s x = y.e.k := by unfold ky; rw [hy]
        rw [← hky]
        have hcat : chain s ord i = (p ++ [x]) ++ r := by rw [hc]; simp
        refine Rt.cD (fun hb => ?_) fun hb => ?_
        · have hbx : bel s k x = true := by simpa [bel] using hb
          have := ih i m (p ++ [x]) r w3 out l4 hcat (fun z hz => by
            rcases List.mem_append.1 hz with hz | hz
            · exact hp z hz
            · rw [List.mem_singleton] at hz; subst hz; exact hbx) hi12 (by simp at hf; omega) (by omega) k03 ((l3.dr').kp k3) ((l4'.dr').kp k3) hl4 ((l5.dr').kp k3) hl5 hout
          rw [lastI_snoc] at this
          exact this
        · have hbx : bel s k x = false := by simp only [bel, decide_eq_false_iff_not]; exact hb
          exact done _ k03 ((l3.dr').kp k3) ((l4'.dr').kp k3) ((l5.dr').kp k3) (.inr ⟨x, r, rfl, hbx⟩)

def RPath (s : St) (ord : List Nat) (k : Key) (w0 : World) : List Value × World → Prop := fun r => ∃ w', r = ([.agg (v12 fun j => en (pth s ord k j)).toArray], w') ∧ Kp w0 w'
theorem path_spec {kA : Option Addr} {kl kc : Nat} {ks kk : Int} (h : Sk w base b S s) (hi : Inv s ord) (hk : KeyV w kA kl kc ks kk k) (hn : 2 ^ 50 < n) (hN : s.nodes.length ≤ 2 ^ 30) : Rt (skip_List_path n [pt b, kv kA kl kc ks kk] w) (RPath s ord k w) := by
  rw [skip_List_path_eq]
  refine Rt.fin (Rt.al fun w1 l1 k1 s1 => Rt.al fun w2 l2 k2 s2 => Rt.jmX (Rt.al fun w3 l3 k3 s3 => ?_))
  refine Rt.of_eq (skip_List_path.g0_succ n n (some ⟨b, 0, none⟩) ⟨w.heap.size, 0, none⟩ ⟨w1.heap.size, 0, none⟩ ⟨w2.heap.size, 0, none⟩ (-1) 11 w3) ?_
  have k13 := (k1.tr k2).tr k3
  have := path_g0 (n := n) (b3 := w.heap.size) (b4 := w1.heap.size) (b5 := w2.heap.size) h hi hk (by omega) (Nat.le_refl _) k1.size (by have := k1.size; have := k2.size; omega) (by have := k2.size; omega) (by omega) (11 * (s.nodes.length + 2) + (chain s ord 11).length + 1) 11 (n + 1) [] _ w3 _ _ rfl (by simp) (by decide) (Nat.le_refl _) (by have := chain_len (j := 11) hi; omega) k13 ((l1.kp k2).kp k3) (l2.kp k3) rfl l3 rfl fun j h1 h2 => by omega
  refine Rt.mono this ?_
  rintro ⟨ex, vs, w4⟩ ⟨h1, h2, k4⟩
  dsimp only at h1 h2 k4
  subst h1 h2
  exact .inr ⟨by simp, rfl, w4, rfl, k4⟩
end
end Go.Proofs.Ytoilmnplocfipaa.Sk
