/- A sorted buffer: Insert, whole. -/
import Derived.Test.YtoilmnplocfipaaS6
namespace Go.Proofs.Ytoilmnplocfipaa.Sk
open Go Big Go.RowKit Go.IntWalk Ik
set_option linter.unusedVariables false
set_option linter.unusedSimpArgs false
section
variable {α : Type} {Q : α → Prop} {n base b : Nat} {w w' w0 : World} {S T R : Nat → Prop} {s : St} {A : Option Addr} {c : Nat} {nv : List Nw} {ord : List Nat} {k : Key} {ks : List (En × Nat)} {x : En}
theorem Rt.al12 {f : Nat → Int} {t : TypeId} {g : World → Option α} (h : ∀ w1, Lc w1 w.heap.size (v12 f) → Kp w w1 → w.heap.size < w1.heap.size → Rt (g w1) Q) :
    Rt (Big.al w #[Value.int .i64 0, Value.int .i64 0, Value.int .i64 0, Value.int .i64 0, Value.int .i64 0, Value.int .i64 0, Value.int .i64 0, Value.int .i64 0, Value.int .i64 0, Value.int .i64 0, Value.int .i64 0, Value.int .i64 0] t fun w0 => stC w0 ⟨w.heap.size, 0, none⟩ (Value.int .i64 (f 0)) fun w1 => stC w1 (Addr.add ⟨w.heap.size, 0, none⟩ 1) (Value.int .i64 (f 1)) fun w2 => stC w2 (Addr.add ⟨w.heap.size, 0, none⟩ 2) (Value.int .i64 (f 2)) fun w3 => stC w3 (Addr.add ⟨w.heap.size, 0, none⟩ 3) (Value.int .i64 (f 3)) fun w4 => stC w4 (Addr.add ⟨w.heap.size, 0, none⟩ 4) (Value.int .i64 (f 4)) fun w5 => stC w5 (Addr.add ⟨w.heap.size, 0, none⟩ 5) (Value.int .i64 (f 5)) fun w6 => stC w6 (Addr.add ⟨w.heap.size, 0, none⟩ 6) (Value.int .i64 (f 6)) fun w7 => stC w7 (Addr.add ⟨w.heap.size, 0, none⟩ 7) (Value.int .i64 (f 7)) fun w8 => stC w8 (Addr.add ⟨w.heap.size, 0, none⟩ 8) (Value.int .i64 (f 8)) fun w9 => stC w9 (Addr.add ⟨w.heap.size, 0, none⟩ 9) (Value.int .i64 (f 9)) fun w10 => stC w10 (Addr.add ⟨w.heap.size, 0, none⟩ 10) (Value.int .i64 (f 10)) fun w11 => stC w11 (Addr.add ⟨w.heap.size, 0, none⟩ 11) (Value.int .i64 (f 11)) fun w12 =>  g w12) Q := by
  refine Rt.al fun w0 l0 k0 s0 => ?_
  refine Rt.stb l0 (by simp) fun w1 l1 g1 => ?_
  have k1 := k0.tx g1 fun j hj => by omega
  refine Rt.stn l1 (by simp) fun w2 l2 g2 => ?_
  have k2 := k1.tx g2 fun j hj => by omega
  refine Rt.stn l2 (by simp) fun w3 l3 g3 => ?_
  have k3 := k2.tx g3 fun j hj => by omega
  refine Rt.stn l3 (by simp) fun w4 l4 g4 => ?_
  have k4 := k3.tx g4 fun j hj => by omega
  refine Rt.stn l4 (by simp) fun w5 l5 g5 => ?_
  have k5 := k4.tx g5 fun j hj => by omega
  refine Rt.stn l5 (by simp) fun w6 l6 g6 => ?_
  have k6 := k5.tx g6 fun j hj => by omega
  refine Rt.stn l6 (by simp) fun w7 l7 g7 => ?_
  have k7 := k6.tx g7 fun j hj => by omega
  refine Rt.stn l7 (by simp) fun w8 l8 g8 => ?_
  have k8 := k7.tx g8 fun j hj => by omega
  refine Rt.stn l8 (by simp) fun w9 l9 g9 => ?_
  have k9 := k8.tx g9 fun j hj => by omega
  refine Rt.stn l9 (by simp) fun w10 l10 g10 => ?_
  have k10 := k9.tx g10 fun j hj => by omega
  refine Rt.stn l10 (by simp) fun w11 l11 g11 => ?_
  have k11 := k10.tx g11 fun j hj => by omega
  refine Rt.stn l11 (by simp) fun w12 l12 g12 => ?_
  have k12 := k11.tx g12 fun j hj => by omega
  exact h w12 l12 k12 (by have := g1.size; have := g2.size; have := g3.size; have := g4.size; have := g5.size; have := g6.size; have := g7.size; have := g8.size; have := g9.size; have := g10.size; have := g11.size; have := g12.size; omega)
theorem chain_0 (hi : Inv s ord) : chain s ord 0 = ord := by
  unfold chain
  rw [List.filter_eq_self]
  intro i hi'
  obtain ⟨y, h1, _, _, h4⟩ := prA_at hi hi'
  rw [h4]
  have := hi.ht y (List.mem_of_getElem? h1)
  simp; omega
theorem equal_hd (hi : Inv s ord) : (∃ i ∈ ord, cmpK (ky s i) k = 0) ↔ ∃ i r, ord.dropWhile (bel s k) = i :: r ∧ cmpK (ky s i) k = 0 := by
  constructor
  · rintro ⟨i, him, he⟩
    have hd : i ∈ ord.dropWhile (bel s k) := by
      rw [(tw_filter hi.srt).2, List.mem_filter]
      exact ⟨him, by simp [bel, he]⟩
    cases hr : ord.dropWhile (bel s k) with
    | nil => rw [hr] at hd; cases hd
    | cons q r =>
      refine ⟨q, r, rfl, ?_⟩
      rw [hr] at hd
      rcases List.mem_cons.1 hd with rfl | hd
      · exact he
      · exfalso
        have hs := hi.srt.sublist (List.dropWhile_sublist (bel s k))
        rw [hr] at hs
        have h1 := (List.pairwise_cons.1 hs).1 i hd
        have h2 : ky s i = k := by
          have := (cmpK_zero _ _).1 he
          cases hk1 : ky s i; cases k; rw [hk1] at this; simp at this; simp [this]
        rw [h2] at h1
        have h3 := List.head?_dropWhile_not (bel s k) ord
        rw [hr] at h3
        simp [bel] at h3
        omega
  · rintro ⟨i, r, e, h⟩
    exact ⟨i, (List.dropWhile_sublist (bel s k)).subset (by rw [e]; exact List.mem_cons_self), h⟩
theorem sizeA_app (a b : List (En × Nat)) : sizeA (a ++ b) = sizeA a + sizeA b := by simp [sizeA]
theorem sizeA_put {x : En} {h : Nat} : sizeA (putA x h ks) = sizeA ks + oneA (x, h) := by
  have e : ks.takeWhile (belA x.k) ++ ks.dropWhile (belA x.k) = ks := List.takeWhile_append_dropWhile
  unfold putA
  rw [sizeA_app]
  have h1 := congrArg sizeA e
  rw [sizeA_app] at h1
  have h2 : sizeA ((x, h) :: ks.dropWhile (belA x.k)) = oneA (x, h) + sizeA (ks.dropWhile (belA x.k)) := by simp [sizeA]
  omega
theorem oneA_le {y : En × Nat} (h : rightE y.1 ∧ 1 ≤ y.2 ∧ y.2 ≤ 12) : 0 ≤ oneA y ∧ oneA y ≤ 5000 := by
  obtain ⟨⟨⟨h1, h2, _⟩, h3, _⟩, h4, h5⟩ := h
  have e : y.1.k.key = y.1.key := rfl
  rw [e] at h1 h2
  unfold oneA; omega
theorem sizeA_le : ∀ {ks : List (En × Nat)}, (∀ y ∈ ks, rightE y.1 ∧ 1 ≤ y.2 ∧ y.2 ≤ 12) → 0 ≤ sizeA ks ∧ sizeA ks ≤ 5000 * ks.length
  | [], _ => by simp [sizeA]
  | y :: ks, h => by
    have h1 := oneA_le (h y List.mem_cons_self)
    have h2 := sizeA_le fun z hz => h z (List.mem_cons_of_mem _ hz)
    have e : sizeA (y :: ks) = oneA y + sizeA ks := by simp [sizeA]
    rw [e, List.length_cons]; omega
/-- The entry goes in. -/
theorem Insert_in {K V : Option Addr} {kl kc vl vc : Nat} {s0 k0 H : Int} {w5 : World} {b0 bp : Nat} (h : SkA w base b S ks) (hx : EnV w K kl kc s0 k0 V vl vc x) (hb : base ≤ w.heap.size) (hN : ks.length ≤ 2 ^ 30) (hn : 2 ^ 60 < n)
    (hS : Sk w base b S s) (hi : Inv s ord) (hks : ks = ord.map (prA s)) (hby : s.bytes = sizeA ks) (hok : ∀ y ∈ ks, rightE y.1 ∧ 1 ≤ y.2 ∧ y.2 ≤ 12) (hr : rightE x) (hne : ¬ ∃ y ∈ ks, cmpK y.1.k x.k = 0) (k05 : Kp w w5) (hb0 : w.heap.size ≤ b0) (hbp : w.heap.size ≤ bp)
    (l0 : Lc w5 b0 [.slice K kl kc, .int .u64 s0, .int .i64 k0, .slice V vl vc]) (lp : Lc w5 bp (v12 fun j => en (pth s ord x.k j))) :
    Rt (Big.jm (cond (skip_List_Insert.ob0 w5) (cond (skip_List_Insert.ob1 w5) (cond (skip_List_Insert.ob2 w5) (Big.opt (w5.drew.cell? ⟨b0, 0, none⟩) fun v147q => Big.tL v147q fun A148q l149q c150q => Big.opt (w5.drew.cell? (Addr.add ⟨b0, 0, none⟩ 1)) fun v151q => Big.tI .u64 v151q fun n152q => Big.opt (w5.drew.cell? (Addr.add ⟨b0, 0, none⟩ 2)) fun v153q => Big.tI .i64 v153q fun n154q => Big.opt (w5.drew.cell? (Addr.add ⟨b0, 0, none⟩ 3)) fun v155q => Big.tL v155q fun A156q l157q c158q => Big.cl (skip_own n [(.agg #[(.slice A148q l149q c150q), (.int .u64 n152q), (.int .i64 n154q), (.slice A156q l157q c158q)])] w5.drew) fun vs159q w160q => Big.tC vs159q fun v161q cs162q => Big.tA v161q fun cs163q => Big.tC cs163q fun v164q cs165q => Big.tL v164q fun A166q l167q c168q => Big.tC cs165q fun v169q cs170q => Big.tI .u64 v169q fun n171q => Big.tC cs170q fun v172q cs173q => Big.tI .i64 v172q fun n174q => Big.tC cs173q fun v175q cs176q => Big.tL v175q fun A177q l178q c179q => Big.tN cs176q (Big.tN cs162q (Big.rn Try.prog (Instr.makeSlice 40 (.int .i64 (if 12 < (if 1 < H then H else 1) then 12 else (if 1 < H then H else 1))) (.int .i64 (if 12 < (if 1 < H then H else 1) then 12 else (if 1 < H then H else 1)))) w160q fun v183q w184q => Big.tL v183q fun A180q l181q c182q => Big.al w184q #[(.slice none 0 0), (.int .u64 0), (.int .i64 0), (.slice none 0 0), (.slice none 0 0)] 84 fun w185q => Big.stC w185q ⟨w184q.heap.size, 0, none⟩ (.slice A166q l167q c168q) fun w186q => Big.stC w186q (Addr.add ⟨w184q.heap.size, 0, none⟩ 1) (.int .u64 n171q) fun w187q => Big.stC w187q (Addr.add ⟨w184q.heap.size, 0, none⟩ 2) (.int .i64 n174q) fun w188q => Big.stC w188q (Addr.add ⟨w184q.heap.size, 0, none⟩ 3) (.slice A177q l178q c179q) fun w189q => Big.stC w189q (Addr.add ⟨w184q.heap.size, 0, none⟩ 4) (.slice A180q l181q c182q) fun w190q => some ⟨.norm, [(.pointer (some ⟨b, 0, none⟩)), (.int .i64 (if 12 < (if 1 < H then H else 1) then 12 else (if 1 < H then H else 1))), (.pointer (some ⟨b0, 0, none⟩)), (.pointer (some ⟨bp, 0, none⟩)), (.pointer (some ⟨w184q.heap.size, 0, none⟩))], w190q⟩))) (Big.opt (w5.drew.cell? ⟨b0, 0, none⟩) fun v191q => Big.tL v191q fun A192q l193q c194q => Big.opt (w5.drew.cell? (Addr.add ⟨b0, 0, none⟩ 1)) fun v195q => Big.tI .u64 v195q fun n196q => Big.opt (w5.drew.cell? (Addr.add ⟨b0, 0, none⟩ 2)) fun v197q => Big.tI .i64 v197q fun n198q => Big.opt (w5.drew.cell? (Addr.add ⟨b0, 0, none⟩ 3)) fun v199q => Big.tL v199q fun A200q l201q c202q => Big.cl (skip_own n [(.agg #[(.slice A192q l193q c194q), (.int .u64 n196q), (.int .i64 n198q), (.slice A200q l201q c202q)])] w5.drew) fun vs203q w204q => Big.tC vs203q fun v205q cs206q => Big.tA v205q fun cs207q => Big.tC cs207q fun v208q cs209q => Big.tL v208q fun A210q l211q c212q => Big.tC cs209q fun v213q cs214q => Big.tI .u64 v213q fun n215q => Big.tC cs214q fun v216q cs217q => Big.tI .i64 v216q fun n218q => Big.tC cs217q fun v219q cs220q => Big.tL v219q fun A221q l222q c223q => Big.tN cs220q (Big.tN cs206q (Big.al w204q #[(.slice none 0 0), (.int .u64 0), (.int .i64 0), (.slice none 0 0), (.slice none 0 0)] 84 fun w224q => Big.rn Try.prog (Instr.makeSlice 40 (.int .i64 (if 12 < (if 1 < H then H else 1) then 12 else (if 1 < H then H else 1))) (.int .i64 (if 12 < (if 1 < H then H else 1) then 12 else (if 1 < H then H else 1)))) w224q fun v228q w229q => Big.tL v228q fun A225q l226q c227q => Big.stC w229q ⟨w204q.heap.size, 0, none⟩ (.slice A210q l211q c212q) fun w230q => Big.stC w230q (Addr.add ⟨w204q.heap.size, 0, none⟩ 1) (.int .u64 n215q) fun w231q => Big.stC w231q (Addr.add ⟨w204q.heap.size, 0, none⟩ 2) (.int .i64 n218q) fun w232q => Big.stC w232q (Addr.add ⟨w204q.heap.size, 0, none⟩ 3) (.slice A221q l222q c223q) fun w233q => Big.stC w233q (Addr.add ⟨w204q.heap.size, 0, none⟩ 4) (.slice A225q l226q c227q) fun w234q => some ⟨.norm, [(.pointer (some ⟨b, 0, none⟩)), (.int .i64 (if 12 < (if 1 < H then H else 1) then 12 else (if 1 < H then H else 1))), (.pointer (some ⟨b0, 0, none⟩)), (.pointer (some ⟨bp, 0, none⟩)), (.pointer (some ⟨w204q.heap.size, 0, none⟩))], w234q⟩)))) (Big.opt (w5.drew.cell? ⟨b0, 0, none⟩) fun v235q => Big.tL v235q fun A236q l237q c238q => Big.opt (w5.drew.cell? (Addr.add ⟨b0, 0, none⟩ 1)) fun v239q => Big.tI .u64 v239q fun n240q => Big.opt (w5.drew.cell? (Addr.add ⟨b0, 0, none⟩ 2)) fun v241q => Big.tI .i64 v241q fun n242q => Big.opt (w5.drew.cell? (Addr.add ⟨b0, 0, none⟩ 3)) fun v243q => Big.tL v243q fun A244q l245q c246q => Big.al w5.drew #[(.slice none 0 0), (.int .u64 0), (.int .i64 0), (.slice none 0 0), (.slice none 0 0)] 84 fun w247q => Big.ck (Big.opt (w247q.cell? ⟨b0, 0, none⟩) fun v279q => Big.tL v279q fun A280q l281q c282q => Big.opt (w247q.cell? (Addr.add ⟨b0, 0, none⟩ 1)) fun v283q => Big.tI .u64 v283q fun n284q => Big.opt (w247q.cell? (Addr.add ⟨b0, 0, none⟩ 2)) fun v285q => Big.tI .i64 v285q fun n286q => Big.opt (w247q.cell? (Addr.add ⟨b0, 0, none⟩ 3)) fun v287q => Big.tL v287q fun A288q l289q c290q => some (.agg #[(.slice A280q l281q c282q), (.int .u64 n284q), (.int .i64 n286q), (.slice A288q l289q c290q)])) (.agg #[(.slice A236q l237q c238q), (.int .u64 n240q), (.int .i64 n242q), (.slice A244q l245q c246q)]) (Big.cl (skip_own n [(.agg #[(.slice A236q l237q c238q), (.int .u64 n240q), (.int .i64 n242q), (.slice A244q l245q c246q)])] w247q) fun vs248q w249q => Big.tC vs248q fun v250q cs251q => Big.tA v250q fun cs252q => Big.tC cs252q fun v253q cs254q => Big.tL v253q fun A255q l256q c257q => Big.tC cs254q fun v258q cs259q => Big.tI .u64 v258q fun n260q => Big.tC cs259q fun v261q cs262q => Big.tI .i64 v261q fun n263q => Big.tC cs262q fun v264q cs265q => Big.tL v264q fun A266q l267q c268q => Big.tN cs265q (Big.tN cs251q (Big.rn Try.prog (Instr.makeSlice 40 (.int .i64 (if 12 < (if 1 < H then H else 1) then 12 else (if 1 < H then H else 1))) (.int .i64 (if 12 < (if 1 < H then H else 1) then 12 else (if 1 < H then H else 1)))) w249q fun v272q w273q => Big.tL v272q fun A269q l270q c271q => Big.stC w273q ⟨w5.drew.heap.size, 0, none⟩ (.slice A255q l256q c257q) fun w274q => Big.stC w274q (Addr.add ⟨w5.drew.heap.size, 0, none⟩ 1) (.int .u64 n260q) fun w275q => Big.stC w275q (Addr.add ⟨w5.drew.heap.size, 0, none⟩ 2) (.int .i64 n263q) fun w276q => Big.stC w276q (Addr.add ⟨w5.drew.heap.size, 0, none⟩ 3) (.slice A266q l267q c268q) fun w277q => Big.stC w277q (Addr.add ⟨w5.drew.heap.size, 0, none⟩ 4) (.slice A269q l270q c271q) fun w278q => some ⟨.norm, [(.pointer (some ⟨b, 0, none⟩)), (.int .i64 (if 12 < (if 1 < H then H else 1) then 12 else (if 1 < H then H else 1))), (.pointer (some ⟨b0, 0, none⟩)), (.pointer (some ⟨bp, 0, none⟩)), (.pointer (some ⟨w5.drew.heap.size, 0, none⟩))], w278q⟩))))) (cond (skip_List_Insert.ob3 w5) (cond (skip_List_Insert.ob4 w5) (Big.opt (w5.drew.cell? ⟨b0, 0, none⟩) fun v291q => Big.tL v291q fun A292q l293q c294q => Big.opt (w5.drew.cell? (Addr.add ⟨b0, 0, none⟩ 1)) fun v295q => Big.tI .u64 v295q fun n296q => Big.opt (w5.drew.cell? (Addr.add ⟨b0, 0, none⟩ 2)) fun v297q => Big.tI .i64 v297q fun n298q => Big.opt (w5.drew.cell? (Addr.add ⟨b0, 0, none⟩ 3)) fun v299q => Big.tL v299q fun A300q l301q c302q => Big.rn Try.prog (Instr.makeSlice 40 (.int .i64 (if 12 < (if 1 < H then H else 1) then 12 else (if 1 < H then H else 1))) (.int .i64 (if 12 < (if 1 < H then H else 1) then 12 else (if 1 < H then H else 1)))) w5.drew fun v306q w307q => Big.tL v306q fun A303q l304q c305q => Big.ck (Big.opt (w307q.cell? ⟨b0, 0, none⟩) fun v335q => Big.tL v335q fun A336q l337q c338q => Big.opt (w307q.cell? (Addr.add ⟨b0, 0, none⟩ 1)) fun v339q => Big.tI .u64 v339q fun n340q => Big.opt (w307q.cell? (Addr.add ⟨b0, 0, none⟩ 2)) fun v341q => Big.tI .i64 v341q fun n342q => Big.opt (w307q.cell? (Addr.add ⟨b0, 0, none⟩ 3)) fun v343q => Big.tL v343q fun A344q l345q c346q => some (.agg #[(.slice A336q l337q c338q), (.int .u64 n340q), (.int .i64 n342q), (.slice A344q l345q c346q)])) (.agg #[(.slice A292q l293q c294q), (.int .u64 n296q), (.int .i64 n298q), (.slice A300q l301q c302q)]) (Big.cl (skip_own n [(.agg #[(.slice A292q l293q c294q), (.int .u64 n296q), (.int .i64 n298q), (.slice A300q l301q c302q)])] w307q) fun vs308q w309q => Big.tC vs308q fun v310q cs311q => Big.tA v310q fun cs312q => Big.tC cs312q fun v313q cs314q => Big.tL v313q fun A315q l316q c317q => Big.tC cs314q fun v318q cs319q => Big.tI .u64 v318q fun n320q => Big.tC cs319q fun v321q cs322q => Big.tI .i64 v321q fun n323q => Big.tC cs322q fun v324q cs325q => Big.tL v324q fun A326q l327q c328q => Big.tN cs325q (Big.tN cs311q (Big.al w309q #[(.slice none 0 0), (.int .u64 0), (.int .i64 0), (.slice none 0 0), (.slice none 0 0)] 84 fun w329q => Big.stC w329q ⟨w309q.heap.size, 0, none⟩ (.slice A315q l316q c317q) fun w330q => Big.stC w330q (Addr.add ⟨w309q.heap.size, 0, none⟩ 1) (.int .u64 n320q) fun w331q => Big.stC w331q (Addr.add ⟨w309q.heap.size, 0, none⟩ 2) (.int .i64 n323q) fun w332q => Big.stC w332q (Addr.add ⟨w309q.heap.size, 0, none⟩ 3) (.slice A326q l327q c328q) fun w333q => Big.stC w333q (Addr.add ⟨w309q.heap.size, 0, none⟩ 4) (.slice A303q l304q c305q) fun w334q => some ⟨.norm, [(.pointer (some ⟨b, 0, none⟩)), (.int .i64 (if 12 < (if 1 < H then H else 1) then 12 else (if 1 < H then H else 1))), (.pointer (some ⟨b0, 0, none⟩)), (.pointer (some ⟨bp, 0, none⟩)), (.pointer (some ⟨w309q.heap.size, 0, none⟩))], w334q⟩)))) (Big.opt (w5.drew.cell? ⟨b0, 0, none⟩) fun v347q => Big.tL v347q fun A348q l349q c350q => Big.opt (w5.drew.cell? (Addr.add ⟨b0, 0, none⟩ 1)) fun v351q => Big.tI .u64 v351q fun n352q => Big.opt (w5.drew.cell? (Addr.add ⟨b0, 0, none⟩ 2)) fun v353q => Big.tI .i64 v353q fun n354q => Big.opt (w5.drew.cell? (Addr.add ⟨b0, 0, none⟩ 3)) fun v355q => Big.tL v355q fun A356q l357q c358q => Big.rn Try.prog (Instr.makeSlice 40 (.int .i64 (if 12 < (if 1 < H then H else 1) then 12 else (if 1 < H then H else 1))) (.int .i64 (if 12 < (if 1 < H then H else 1) then 12 else (if 1 < H then H else 1)))) w5.drew fun v362q w363q => Big.tL v362q fun A359q l360q c361q => Big.ck (Big.opt (w363q.cell? ⟨b0, 0, none⟩) fun v403q => Big.tL v403q fun A404q l405q c406q => Big.opt (w363q.cell? (Addr.add ⟨b0, 0, none⟩ 1)) fun v407q => Big.tI .u64 v407q fun n408q => Big.opt (w363q.cell? (Addr.add ⟨b0, 0, none⟩ 2)) fun v409q => Big.tI .i64 v409q fun n410q => Big.opt (w363q.cell? (Addr.add ⟨b0, 0, none⟩ 3)) fun v411q => Big.tL v411q fun A412q l413q c414q => some (.agg #[(.slice A404q l405q c406q), (.int .u64 n408q), (.int .i64 n410q), (.slice A412q l413q c414q)])) (.agg #[(.slice A348q l349q c350q), (.int .u64 n352q), (.int .i64 n354q), (.slice A356q l357q c358q)]) (Big.al w363q #[(.slice none 0 0), (.int .u64 0), (.int .i64 0), (.slice none 0 0), (.slice none 0 0)] 84 fun w364q => Big.ck (Big.opt (w364q.cell? ⟨b0, 0, none⟩) fun v391q => Big.tL v391q fun A392q l393q c394q => Big.opt (w364q.cell? (Addr.add ⟨b0, 0, none⟩ 1)) fun v395q => Big.tI .u64 v395q fun n396q => Big.opt (w364q.cell? (Addr.add ⟨b0, 0, none⟩ 2)) fun v397q => Big.tI .i64 v397q fun n398q => Big.opt (w364q.cell? (Addr.add ⟨b0, 0, none⟩ 3)) fun v399q => Big.tL v399q fun A400q l401q c402q => some (.agg #[(.slice A392q l393q c394q), (.int .u64 n396q), (.int .i64 n398q), (.slice A400q l401q c402q)])) (.agg #[(.slice A348q l349q c350q), (.int .u64 n352q), (.int .i64 n354q), (.slice A356q l357q c358q)]) (Big.cl (skip_own n [(.agg #[(.slice A348q l349q c350q), (.int .u64 n352q), (.int .i64 n354q), (.slice A356q l357q c358q)])] w364q) fun vs365q w366q => Big.tC vs365q fun v367q cs368q => Big.tA v367q fun cs369q => Big.tC cs369q fun v370q cs371q => Big.tL v370q fun A372q l373q c374q => Big.tC cs371q fun v375q cs376q => Big.tI .u64 v375q fun n377q => Big.tC cs376q fun v378q cs379q => Big.tI .i64 v378q fun n380q => Big.tC cs379q fun v381q cs382q => Big.tL v381q fun A383q l384q c385q => Big.tN cs382q (Big.tN cs368q (Big.stC w366q ⟨w363q.heap.size, 0, none⟩ (.slice A372q l373q c374q) fun w386q => Big.stC w386q (Addr.add ⟨w363q.heap.size, 0, none⟩ 1) (.int .u64 n377q) fun w387q => Big.stC w387q (Addr.add ⟨w363q.heap.size, 0, none⟩ 2) (.int .i64 n380q) fun w388q => Big.stC w388q (Addr.add ⟨w363q.heap.size, 0, none⟩ 3) (.slice A383q l384q c385q) fun w389q => Big.stC w389q (Addr.add ⟨w363q.heap.size, 0, none⟩ 4) (.slice A359q l360q c361q) fun w390q => some ⟨.norm, [(.pointer (some ⟨b, 0, none⟩)), (.int .i64 (if 12 < (if 1 < H then H else 1) then 12 else (if 1 < H then H else 1))), (.pointer (some ⟨b0, 0, none⟩)), (.pointer (some ⟨bp, 0, none⟩)), (.pointer (some ⟨w363q.heap.size, 0, none⟩))], w390q⟩)))))) (Big.opt (w5.drew.cell? ⟨b0, 0, none⟩) fun v415q => Big.tL v415q fun A416q l417q c418q => Big.opt (w5.drew.cell? (Addr.add ⟨b0, 0, none⟩ 1)) fun v419q => Big.tI .u64 v419q fun n420q => Big.opt (w5.drew.cell? (Addr.add ⟨b0, 0, none⟩ 2)) fun v421q => Big.tI .i64 v421q fun n422q => Big.opt (w5.drew.cell? (Addr.add ⟨b0, 0, none⟩ 3)) fun v423q => Big.tL v423q fun A424q l425q c426q => Big.al w5.drew #[(.slice none 0 0), (.int .u64 0), (.int .i64 0), (.slice none 0 0), (.slice none 0 0)] 84 fun w427q => Big.ck (Big.opt (w427q.cell? ⟨b0, 0, none⟩) fun v471q => Big.tL v471q fun A472q l473q c474q => Big.opt (w427q.cell? (Addr.add ⟨b0, 0, none⟩ 1)) fun v475q => Big.tI .u64 v475q fun n476q => Big.opt (w427q.cell? (Addr.add ⟨b0, 0, none⟩ 2)) fun v477q => Big.tI .i64 v477q fun n478q => Big.opt (w427q.cell? (Addr.add ⟨b0, 0, none⟩ 3)) fun v479q => Big.tL v479q fun A480q l481q c482q => some (.agg #[(.slice A472q l473q c474q), (.int .u64 n476q), (.int .i64 n478q), (.slice A480q l481q c482q)])) (.agg #[(.slice A416q l417q c418q), (.int .u64 n420q), (.int .i64 n422q), (.slice A424q l425q c426q)]) (Big.rn Try.prog (Instr.makeSlice 40 (.int .i64 (if 12 < (if 1 < H then H else 1) then 12 else (if 1 < H then H else 1))) (.int .i64 (if 12 < (if 1 < H then H else 1) then 12 else (if 1 < H then H else 1)))) w427q fun v431q w432q => Big.tL v431q fun A428q l429q c430q => Big.ck (Big.opt (w432q.cell? ⟨b0, 0, none⟩) fun v459q => Big.tL v459q fun A460q l461q c462q => Big.opt (w432q.cell? (Addr.add ⟨b0, 0, none⟩ 1)) fun v463q => Big.tI .u64 v463q fun n464q => Big.opt (w432q.cell? (Addr.add ⟨b0, 0, none⟩ 2)) fun v465q => Big.tI .i64 v465q fun n466q => Big.opt (w432q.cell? (Addr.add ⟨b0, 0, none⟩ 3)) fun v467q => Big.tL v467q fun A468q l469q c470q => some (.agg #[(.slice A460q l461q c462q), (.int .u64 n464q), (.int .i64 n466q), (.slice A468q l469q c470q)])) (.agg #[(.slice A416q l417q c418q), (.int .u64 n420q), (.int .i64 n422q), (.slice A424q l425q c426q)]) (Big.cl (skip_own n [(.agg #[(.slice A416q l417q c418q), (.int .u64 n420q), (.int .i64 n422q), (.slice A424q l425q c426q)])] w432q) fun vs433q w434q => Big.tC vs433q fun v435q cs436q => Big.tA v435q fun cs437q => Big.tC cs437q fun v438q cs439q => Big.tL v438q fun A440q l441q c442q => Big.tC cs439q fun v443q cs444q => Big.tI .u64 v443q fun n445q => Big.tC cs444q fun v446q cs447q => Big.tI .i64 v446q fun n448q => Big.tC cs447q fun v449q cs450q => Big.tL v449q fun A451q l452q c453q => Big.tN cs450q (Big.tN cs436q (Big.stC w434q ⟨w5.drew.heap.size, 0, none⟩ (.slice A440q l441q c442q) fun w454q => Big.stC w454q (Addr.add ⟨w5.drew.heap.size, 0, none⟩ 1) (.int .u64 n445q) fun w455q => Big.stC w455q (Addr.add ⟨w5.drew.heap.size, 0, none⟩ 2) (.int .i64 n448q) fun w456q => Big.stC w456q (Addr.add ⟨w5.drew.heap.size, 0, none⟩ 3) (.slice A451q l452q c453q) fun w457q => Big.stC w457q (Addr.add ⟨w5.drew.heap.size, 0, none⟩ 4) (.slice A428q l429q c430q) fun w458q => some ⟨.norm, [(.pointer (some ⟨b, 0, none⟩)), (.int .i64 (if 12 < (if 1 < H then H else 1) then 12 else (if 1 < H then H else 1))), (.pointer (some ⟨b0, 0, none⟩)), (.pointer (some ⟨bp, 0, none⟩)), (.pointer (some ⟨w5.drew.heap.size, 0, none⟩))], w458q⟩))))))) fun vs483q w484q => Big.tC vs483q fun v485q cs486q => Big.tP v485q fun p487q => Big.tC cs486q fun v488q cs489q => Big.tI .i64 v488q fun n490q => Big.tC cs489q fun v491q cs492q => Big.tD v491q fun ad493q => Big.tC cs492q fun v494q cs495q => Big.tD v494q fun ad496q => Big.tC cs495q fun v497q cs498q => Big.tD v497q fun ad499q => Big.tN cs498q (Big.jb 0 (skip_List_Insert.l0 n n p487q n490q ad493q ad496q ad499q n490q 0 w484q) fun vs572q w573q => Big.tC vs572q fun v574q cs575q => Big.tP v574q fun p576q => Big.tC cs575q fun v577q cs578q => Big.tI .i64 v577q fun n579q => Big.tC cs578q fun v580q cs581q => Big.tD v580q fun ad582q => Big.tC cs581q fun v583q cs584q => Big.tD v583q fun ad585q => Big.tN cs584q (Big.opt p576q fun ad586q => Big.opt (w573q.drew.cell? (Addr.add ad586q 12)) fun v587q => Big.tL v587q fun A588q l589q c590q => Big.opt (w573q.drew.cell? ad585q) fun v591q => Big.tL v591q fun A592q l593q c594q => Big.opt (w573q.drew.cell? (Addr.add ad585q 1)) fun v595q => Big.tI .u64 v595q fun n596q => Big.opt (w573q.drew.cell? (Addr.add ad585q 2)) fun v597q => Big.tI .i64 v597q fun n598q => Big.opt (w573q.drew.cell? (Addr.add ad585q 3)) fun v599q => Big.tL v599q fun A600q l601q c602q => Big.opt (w573q.drew.cell? (Addr.add ad585q 4)) fun v603q => Big.tL v603q fun A604q l605q c606q => Big.al w573q.drew #[(.slice A592q l593q c594q), (.int .u64 n596q), (.int .i64 n598q), (.slice A600q l601q c602q), (.slice A604q l605q c606q)] 84 fun w607q => Big.ck (Big.opt (w607q.cell? (Addr.add ad586q 12)) fun v628q => Big.tL v628q fun A629q l630q c631q => some (.slice A629q l630q c631q)) (.slice A588q l589q c590q) (Big.rn Try.prog (Builtin.append_ #[77, 77] 77 #[(.slice A588q l589q c590q), (.slice (some ⟨w573q.drew.heap.size, 0, none⟩) 1 1)]) w607q fun v611q w612q => Big.tL v611q fun A608q l609q c610q => Big.opt p576q fun ad613q => Big.stC w612q (Addr.add ad613q 12) (.slice A608q l609q c610q) fun w614q => Big.opt p576q fun ad615q => Big.opt (w614q.drew.cell? (Addr.add ad615q 13)) fun v616q => Big.tI .i64 v616q fun n617q => Big.opt (w614q.drew.cell? ad582q) fun v618q => Big.tL v618q fun A619q l620q c621q => Big.opt (w614q.drew.cell? (Addr.add ad582q 3)) fun v622q => Big.tL v622q fun A623q l624q c625q => Big.opt p576q fun ad626q => Big.stC w614q.drew (Addr.add ad626q 13) (.int .i64 (IntKind.i64.wrap (n617q + (IntKind.i64.wrap ((IntKind.i64.wrap ((IntKind.i64.wrap ((l620q : Int) + (l624q : Int))) + 16)) + (IntKind.i64.wrap (8 * n579q))))))) fun w627q => some ⟨.ret, [(.int .i64 0)], w627q⟩)))) fun r => r.ex = .ret ∧ RF S w [.int .i64 0] (fun S' w' => SkA w' base b S' (putA x (clampI H).toNat ks)) (r.vals, r.w) := by
  obtain ⟨R, A, c, nv, hV, hSS⟩ := hS
  have hH := clampI_in H
  obtain ⟨tI, hTI⟩ := slI
  obtain ⟨tN, zN, hTN⟩ := slN
  have hlen : s.nodes.length = ks.length := by rw [hks, List.length_map, hi.len]
  have hkl := hx.key.len
  have hvl := hx.val.len
  have hr1 : x.key.length ≤ 256 := hr.1.2.1
  have hr2 : x.val.length ≤ 4096 := hr.2.1
  have hwd : w5.drew.heap.size = w5.heap.size := rfl
  have hE := hx.kp k05.dr
  have l0d := l0.dr'
  refine Rt.jm (Rt.mono (Q' := RMade w5.drew x (clampI H).toNat fun nb => [pt b, .int .i64 (clampI H), .pointer (some ⟨b0, 0, none⟩), .pointer (some ⟨bp, 0, none⟩), .pointer (some ⟨nb, 0, none⟩)]) ?_ ?_)
  · refine Rt.cB (fun _ => Rt.cB (fun _ => Rt.cB (fun _ => ?_) fun _ => ?_) fun _ => ?_) fun _ => Rt.cB (fun _ => Rt.cB (fun _ => ?_) fun _ => ?_) fun _ => ?_
    · exact made_OMA hE (by omega) (by omega) hH l0d
    · exact made_OAM hE (by omega) (by omega) hH l0d
    · exact made_AOM hE (by omega) (by omega) hH l0d
    · exact made_MOA hE (by omega) (by omega) hH l0d
    · exact made_MAO hE (by omega) (by omega) hH l0d
    · exact made_AMO hE (by omega) (by omega) hH l0d
  · rintro ⟨ex, vs, w6⟩ ⟨h1, nb, g, K', kc', V', vc', h2, hM⟩
    dsimp only at h1 h2 hM
    subst h1 h2
    refine ⟨rfl, ?_⟩
    dsimp only
    obtain ⟨hh, ehh⟩ : ∃ hh : Nat, clampI H = (hh : Int) := ⟨(clampI H).toNat, by omega⟩
    rw [ehh] at hM hH ⊢
    rw [Int.toNat_natCast] at hM ⊢
    (repeat (first | (with_reducible (first | refine Rt.fin ?_ | refine Rt.tL ?_ | refine Rt.tI ?_ | refine Rt.tB ?_ | refine Rt.tS ?_ | refine Rt.tP ?_ | refine Rt.tD ?_ | refine Rt.tM ?_ | refine Rt.tC ?_ | refine Rt.tN ?_ | refine Rt.tA ?_ | refine Rt.tG ?_ | refine Rt.tF ?_ | refine Rt.os ?_ | refine Rt.clS ?_ | refine Rt.jmN ?_ | refine Rt.jbN ?_ | refine Rt.jbE ?_)) | ((with_reducible (first | apply Rt.ld0 | apply Rt.ld1 | apply Rt.ld2 | apply Rt.ld3 | apply Rt.ld4 | apply Rt.ld5)); first | assumption | exact Lc.kp (by assumption) (by assumption)) | ((with_reducible apply Rt.ol); first | assumption | exact cell_kp (by assumption) (by assumption)) | ((with_reducible apply Rt.ckR); focus ((repeat (first | (with_reducible (first | refine Rt.fin ?_ | refine Rt.tL ?_ | refine Rt.tI ?_ | refine Rt.tB ?_ | refine Rt.tS ?_ | refine Rt.tP ?_ | refine Rt.tD ?_ | refine Rt.tM ?_ | refine Rt.tC ?_ | refine Rt.tN ?_ | refine Rt.tA ?_ | refine Rt.tG ?_ | refine Rt.tF ?_ | refine Rt.os ?_ | refine Rt.clS ?_ | refine Rt.jmN ?_ | refine Rt.jbN ?_ | refine Rt.jbE ?_)) | ((with_reducible (first | apply Rt.ld0 | apply Rt.ld1 | apply Rt.ld2 | apply Rt.ld3 | apply Rt.ld4 | apply Rt.ld5)); first | assumption | exact Lc.kp (by assumption) (by assumption)) | ((with_reducible apply Rt.ol); first | assumption | exact cell_kp (by assumption) (by assumption)))); exact Rt.some' rfl))))
    have k56 := hM.kp
    have k06 : Kp w w6 := k05.dr.tr k56
    have hz := k05.size
    have hSlt : ∀ j, SkS b R A c nv j → j < w5.drew.heap.size := fun j hj => by have := (hV.lt hj).2; omega
    have hV6 := hV.gx (T := fun _ => False) (k06.gx) fun _ _ h => h
    have gN := own_lt hM.oN g rfl
    have hNL : Own .i64 3 w6 w5.drew.heap.size (.slice (some ⟨g, 0, none⟩) hh hh) (nxs (fun j => en (Sk.hd ((chain s ord j).dropWhile (bel s x.k)))) hh 0) := by simpa [nxs] using hM.oN
    have lp6 := (lp.dr').kp k56
    have l06 := l0d.kp k56
    have hb0' := l0.lt
    have hbp' := lp.lt
    have hl0 := ins_l0 (n := n) (p := fun j => pth s ord x.k j) (z := w.heap.size) (E0 := [.slice K kl kc, .int .u64 s0, .int .i64 k0, .slice V vl vc]) hi (fun j _ => rfl) (h := hh) (by omega) (fun j hj => (hV.lt hj).2) (g := g) (nb := nb) (b0 := b0) (bp := bp) (by omega) (by have := hM.lo; omega) hb0 hbp (fun e => hM.d1 e.symm) (by omega) (by omega) hh 0 n w6 (by omega) (by omega) hV6 lp6 l06 hM.lc (hNL.mono (by omega))
    refine Rt.jb (Rt.mono hl0 ?_)
    rintro ⟨ex, vs, w7⟩ ⟨h1, h2, g7, hV7, l07, ln7, o7⟩
    dsimp only at h1 h2 g7 hV7 l07 ln7 o7
    subst h1 h2
    refine .inl ⟨.inr rfl, ?_⟩
    dsimp only
    (repeat (first | (with_reducible (first | refine Rt.fin ?_ | refine Rt.tL ?_ | refine Rt.tI ?_ | refine Rt.tB ?_ | refine Rt.tS ?_ | refine Rt.tP ?_ | refine Rt.tD ?_ | refine Rt.tM ?_ | refine Rt.tC ?_ | refine Rt.tN ?_ | refine Rt.tA ?_ | refine Rt.tG ?_ | refine Rt.tF ?_ | refine Rt.os ?_ | refine Rt.clS ?_ | refine Rt.jmN ?_ | refine Rt.jbN ?_ | refine Rt.jbE ?_)) | ((with_reducible (first | apply Rt.ld0 | apply Rt.ld1 | apply Rt.ld2 | apply Rt.ld3 | apply Rt.ld4 | apply Rt.ld5)); first | assumption | exact Lc.kp (by assumption) (by assumption)) | ((with_reducible apply Rt.ol); first | assumption | exact cell_kp (by assumption) (by assumption)) | ((with_reducible apply Rt.ckR); focus ((repeat (first | (with_reducible (first | refine Rt.fin ?_ | refine Rt.tL ?_ | refine Rt.tI ?_ | refine Rt.tB ?_ | refine Rt.tS ?_ | refine Rt.tP ?_ | refine Rt.tD ?_ | refine Rt.tM ?_ | refine Rt.tC ?_ | refine Rt.tN ?_ | refine Rt.tA ?_ | refine Rt.tG ?_ | refine Rt.tF ?_ | refine Rt.os ?_ | refine Rt.clS ?_ | refine Rt.jmN ?_ | refine Rt.jbN ?_ | refine Rt.jbE ?_)) | ((with_reducible (first | apply Rt.ld0 | apply Rt.ld1 | apply Rt.ld2 | apply Rt.ld3 | apply Rt.ld4 | apply Rt.ld5)); first | assumption | exact Lc.kp (by assumption) (by assumption)) | ((with_reducible apply Rt.ol); first | assumption | exact cell_kp (by assumption) (by assumption)))); exact Rt.some' rfl))))
    have hV7d := hV7.gx (T := fun _ => False) ((Kp.rfl' w7).dr.gx) fun _ _ h => h
    have ln7d := ln7.dr'
    refine Rt.os (Rt.ldn hV7d.lc (blk_12 _ _ _ _ hV7d.fst) (Rt.tL ?_))
    (repeat (first | (with_reducible (first | refine Rt.fin ?_ | refine Rt.tL ?_ | refine Rt.tI ?_ | refine Rt.tB ?_ | refine Rt.tS ?_ | refine Rt.tP ?_ | refine Rt.tD ?_ | refine Rt.tM ?_ | refine Rt.tC ?_ | refine Rt.tN ?_ | refine Rt.tA ?_ | refine Rt.tG ?_ | refine Rt.tF ?_ | refine Rt.os ?_ | refine Rt.clS ?_ | refine Rt.jmN ?_ | refine Rt.jbN ?_ | refine Rt.jbE ?_)) | ((with_reducible (first | apply Rt.ld0 | apply Rt.ld1 | apply Rt.ld2 | apply Rt.ld3 | apply Rt.ld4 | apply Rt.ld5)); first | assumption | exact Lc.kp (by assumption) (by assumption)) | ((with_reducible apply Rt.ol); first | assumption | exact cell_kp (by assumption) (by assumption)) | ((with_reducible apply Rt.ckR); focus ((repeat (first | (with_reducible (first | refine Rt.fin ?_ | refine Rt.tL ?_ | refine Rt.tI ?_ | refine Rt.tB ?_ | refine Rt.tS ?_ | refine Rt.tP ?_ | refine Rt.tD ?_ | refine Rt.tM ?_ | refine Rt.tC ?_ | refine Rt.tN ?_ | refine Rt.tA ?_ | refine Rt.tG ?_ | refine Rt.tF ?_ | refine Rt.os ?_ | refine Rt.clS ?_ | refine Rt.jmN ?_ | refine Rt.jbN ?_ | refine Rt.jbE ?_)) | ((with_reducible (first | apply Rt.ld0 | apply Rt.ld1 | apply Rt.ld2 | apply Rt.ld3 | apply Rt.ld4 | apply Rt.ld5)); first | assumption | exact Lc.kp (by assumption) (by assumption)) | ((with_reducible apply Rt.ol); first | assumption | exact cell_kp (by assumption) (by assumption)))); exact Rt.some' rfl))))
    have g67 : Gx (fun j => SkS b R A c nv j ∨ j = g) w6 w7.drew := g7.dr
    have oK := hM.oK.gx g67 fun j hj e => by
      have := own_lt hM.oK j hj
      rcases e with e | e
      · have := hSlt j e; omega
      · subst e; exact hM.d4 hj
    have oV := hM.oV.gx g67 fun j hj e => by
      have := own_lt hM.oV j hj
      rcases e with e | e
      · have := hSlt j e; omega
      · subst e; exact hM.d5 hj
    have hw7 : w7.drew.heap.size = w7.heap.size := rfl
    have s67 := g7.size
    have tK := own_lt hM.oK
    have tV := own_lt hM.oV
    refine Rt.al fun w8 l8 k8 s8 => ?_
    have hV8 := hV7d.gx (T := fun _ => False) (k8.gx) fun _ _ h => h
    refine Rt.ck ?_ ?_
    · rw [Addr.add_lit, Nat.zero_add, hV8.lc.ld, blk_12 _ _ _ _ hV8.fst]; rfl
    have hnl : nv.length = s.nodes.length := hV.len
    refine Rt.app1fL (E := nwEl) (x := ⟨K', x.key.length, kc', x.seq, x.kind, V', x.val.length, vc', g, hh, hh⟩) rfl hTN hV8.row l8 rfl (fun _ _ => rfl) (by omega) (Nat.le_trans (Nat.le_trans hb k06.size) (Nat.le_trans s67 k8.size)) fun A9 c9 w9 o9 g9 f9 => ?_
    (repeat (first | (with_reducible (first | refine Rt.fin ?_ | refine Rt.tL ?_ | refine Rt.tI ?_ | refine Rt.tB ?_ | refine Rt.tS ?_ | refine Rt.tP ?_ | refine Rt.tD ?_ | refine Rt.tM ?_ | refine Rt.tC ?_ | refine Rt.tN ?_ | refine Rt.tA ?_ | refine Rt.tG ?_ | refine Rt.tF ?_ | refine Rt.os ?_ | refine Rt.clS ?_ | refine Rt.jmN ?_ | refine Rt.jbN ?_ | refine Rt.jbE ?_)) | ((with_reducible (first | apply Rt.ld0 | apply Rt.ld1 | apply Rt.ld2 | apply Rt.ld3 | apply Rt.ld4 | apply Rt.ld5)); first | assumption | exact Lc.kp (by assumption) (by assumption)) | ((with_reducible apply Rt.ol); first | assumption | exact cell_kp (by assumption) (by assumption)) | ((with_reducible apply Rt.ckR); focus ((repeat (first | (with_reducible (first | refine Rt.fin ?_ | refine Rt.tL ?_ | refine Rt.tI ?_ | refine Rt.tB ?_ | refine Rt.tS ?_ | refine Rt.tP ?_ | refine Rt.tD ?_ | refine Rt.tM ?_ | refine Rt.tC ?_ | refine Rt.tN ?_ | refine Rt.tA ?_ | refine Rt.tG ?_ | refine Rt.tF ?_ | refine Rt.os ?_ | refine Rt.clS ?_ | refine Rt.jmN ?_ | refine Rt.jbN ?_ | refine Rt.jbE ?_)) | ((with_reducible (first | apply Rt.ld0 | apply Rt.ld1 | apply Rt.ld2 | apply Rt.ld3 | apply Rt.ld4 | apply Rt.ld5)); first | assumption | exact Lc.kp (by assumption) (by assumption)) | ((with_reducible apply Rt.ol); first | assumption | exact cell_kp (by assumption) (by assumption)))); exact Rt.some' rfl))))
    have hF8 := hV8.fst
    have lb9 := hV8.lc.gx g9 hV8.nrow
    refine Rt.stn lb9 (by rw [blk_len _ _ _ _ hF8]; decide) fun w10 l10 g10 => Rt.os ?_
    have e12 : (blk (insS s (fun j => pth s ord x.k j) s.nodes.length hh) A nv.length c).set 12 (.slice A9 (nv.length + 1) c9) = blk (insS s (fun j => pth s ord x.k j) s.nodes.length hh) A9 (nv.length + 1) c9 := by
      unfold blk
      rw [List.set_append_right _ _ (by rw [List.length_map, hF8]; decide), List.length_map, hF8]; rfl
    rw [e12] at l10
    have l10d := l10.dr'
    refine Rt.ldn l10d (blk_13 _ _ _ _ hF8) (Rt.tI ?_)
    have l0d9 : Lc w10.drew b0 [.slice K kl kc, .int .u64 s0, .int .i64 k0, .slice V vl vc] := by
      have hne : b0 ≠ b := by have := (hV.lt (.inl rfl)).2; omega
      refine ((((l07.dr').kp k8).gx g9 fun h => ?_).gx g10 hne).dr'
      have := (hV8.row.lt _ h)
      have := hSlt b0 (.inr (.inl h)); have := (hV.lt (.inr (.inl h))).2; omega
    (repeat (first | (with_reducible (first | refine Rt.fin ?_ | refine Rt.tL ?_ | refine Rt.tI ?_ | refine Rt.tB ?_ | refine Rt.tS ?_ | refine Rt.tP ?_ | refine Rt.tD ?_ | refine Rt.tM ?_ | refine Rt.tC ?_ | refine Rt.tN ?_ | refine Rt.tA ?_ | refine Rt.tG ?_ | refine Rt.tF ?_ | refine Rt.os ?_ | refine Rt.clS ?_ | refine Rt.jmN ?_ | refine Rt.jbN ?_ | refine Rt.jbE ?_)) | ((with_reducible (first | apply Rt.ld0 | apply Rt.ld1 | apply Rt.ld2 | apply Rt.ld3 | apply Rt.ld4 | apply Rt.ld5)); first | assumption | exact Lc.kp (by assumption) (by assumption)) | ((with_reducible apply Rt.ol); first | assumption | exact cell_kp (by assumption) (by assumption)) | ((with_reducible apply Rt.ckR); focus ((repeat (first | (with_reducible (first | refine Rt.fin ?_ | refine Rt.tL ?_ | refine Rt.tI ?_ | refine Rt.tB ?_ | refine Rt.tS ?_ | refine Rt.tP ?_ | refine Rt.tD ?_ | refine Rt.tM ?_ | refine Rt.tC ?_ | refine Rt.tN ?_ | refine Rt.tA ?_ | refine Rt.tG ?_ | refine Rt.tF ?_ | refine Rt.os ?_ | refine Rt.clS ?_ | refine Rt.jmN ?_ | refine Rt.jbN ?_ | refine Rt.jbE ?_)) | ((with_reducible (first | apply Rt.ld0 | apply Rt.ld1 | apply Rt.ld2 | apply Rt.ld3 | apply Rt.ld4 | apply Rt.ld5)); first | assumption | exact Lc.kp (by assumption) (by assumption)) | ((with_reducible apply Rt.ol); first | assumption | exact cell_kp (by assumption) (by assumption)))); exact Rt.some' rfl))))
    refine Rt.stn l10d (by rw [blk_len _ _ _ _ hF8]; decide) fun w11 l11 g11 => ?_
    have hby2 : (insS s (fun j => pth s ord x.k j) s.nodes.length hh).bytes = sizeA ks := by rw [(insS_nd s _ s.nodes.length hh).2.2.1, hby]
    have hsz := sizeA_le hok
    have hwr : IntKind.i64.wrap ((insS s (fun j => pth s ord x.k j) s.nodes.length hh).bytes + IntKind.i64.wrap (IntKind.i64.wrap (IntKind.i64.wrap ((kl : Int) + (vl : Int)) + 16) + IntKind.i64.wrap (8 * (hh : Int)))) = sizeA ks + oneA (x, hh) := by
      rw [hby2]
      unfold oneA
      dsimp only
      rw [i64_in ((kl : Int) + (vl : Int)) (by omega), i64_in ((kl : Int) + (vl : Int) + 16) (by omega), i64_in (8 * (hh : Int)) (by omega), i64_in ((kl : Int) + (vl : Int) + 16 + 8 * (hh : Int)) (by omega), i64_in _ (by omega)]
      omega
    rw [hwr] at l11
    have e13 : (blk (insS s (fun j => pth s ord x.k j) s.nodes.length hh) A9 (nv.length + 1) c9).set 13 (.int .i64 (sizeA ks + oneA (x, hh))) = blk { insS s (fun j => pth s ord x.k j) s.nodes.length hh with nodes := (insS s (fun j => pth s ord x.k j) s.nodes.length hh).nodes ++ [⟨x, (List.range hh).map fun j => Sk.hd ((chain s ord j).dropWhile (bel s x.k))⟩], bytes := sizeA ks + oneA (x, hh) } A9 (nv.length + 1) c9 := by
      unfold blk
      rw [List.set_append_right _ _ (by rw [List.length_map, hF8]; decide), List.length_map, hF8]; rfl
    rw [e13] at l11
    have gAll : Gx (fun j => On (.slice A nv.length c) j ∨ j = b) w8 w11 := ((g9.wide fun j _ h => .inl h).tr ((g10.wide fun j _ h => .inr h).dr)).tr (g11.wide fun j _ h => .inr h)
    have rowNot : ∀ j, w.heap.size ≤ j → ¬ (On (.slice A nv.length c) j ∨ j = b) := fun j hj h => by
      rcases h with h | h
      · have := (hV.lt (.inr (.inl h))).2; omega
      · have := (hV.lt (.inl h)).2; omega
    have hrow11 : OwnE nwEl 84 w11 base (.slice A9 (nv.length + 1) c9) (nv ++ [⟨K', x.key.length, kc', x.seq, x.kind, V', x.val.length, vc', g, hh, hh⟩]) := by
      have hbb : ∀ j, On (.slice A9 (nv.length + 1) c9) j → ¬ j = b := fun j hj e => by
        subst e
        rcases f9 j hj with h | h
        · exact hV.nrow h
        · have := (hV8.lt (.inl rfl)).2; omega
      exact OwnNw.gx (OwnNw.gx o9 (g10.dr) hbb) g11 hbb
    have hpush := hV8.push (z := w.heap.size) (fun j hj => (hV.lt hj).2) (by have := k06.size; have := k8.size; omega) hb gAll l11 hrow11 f9
      (((oK.kp k8).gx gAll fun j hj => rowNot j (by have := (tK j hj).1; omega)).mono (by omega)) (((oV.kp k8).gx gAll fun j hj => rowNot j (by have := (tV j hj).1; omega)).mono (by omega)) hx.key.rng hx.val.rng rfl rfl hx.rs hx.rk
      (by
        have o7' := ((o7.dr).kp k8).gx gAll fun j hj => rowNot j (by
          have hj : some g = some j := hj
          injection hj with hj; omega)
        have e : ((List.range hh).map fun j => Sk.hd ((chain s ord j).dropWhile (bel s x.k))).map en = nxs (fun j => en (Sk.hd ((chain s ord j).dropWhile (bel s x.k)))) hh hh := by simp [nxs, Function.comp_def]
        rw [e]; exact o7')
      (fun j hj => by
        rcases hj with hj | hj | hj
        · have := tK j hj; omega
        · have := tV j hj; omega
        · subst hj; omega) hM.d4 hM.d5
    have hnxl : ((List.range hh).map fun j => Sk.hd ((chain s ord j).dropWhile (bel s x.k))).length = hh := by simp
    have hadd : addS s (fun j => pth s ord x.k j) ((List.range hh).map fun j => Sk.hd ((chain s ord j).dropWhile (bel s x.k))) x (sizeA ks + oneA (x, hh)) = { insS s (fun j => pth s ord x.k j) s.nodes.length hh with nodes := (insS s (fun j => pth s ord x.k j) s.nodes.length hh).nodes ++ [⟨x, (List.range hh).map fun j => Sk.hd ((chain s ord j).dropWhile (bel s x.k))⟩], bytes := sizeA ks + oneA (x, hh) } := by
      unfold addS; rw [hnxl]
    rw [← hadd] at hpush
    have hneo : ∀ i ∈ ord, cmpK (ky s i) x.k ≠ 0 := fun i hio he => hne ⟨prA s i, by rw [hks]; exact List.mem_map.2 ⟨i, hio, rfl⟩, by
      obtain ⟨y, _, h2, h3, _⟩ := prA_at hi hio
      rw [h2]; rw [h3] at he; exact he⟩
    have hpl : ∀ (j q : Nat), pth s ord x.k j = some q → q < s.nodes.length := fun j q hq => by
      have : q ∈ (chain s ord j).takeWhile (bel s x.k) := by
        unfold pth at hq
        cases hc : (chain s ord j).takeWhile (bel s x.k) with
        | nil => rw [hc] at hq; cases hq
        | cons y t =>
          rw [hc] at hq
          obtain ⟨u, v, e⟩ : ∃ u v, y :: t = u ++ [v] := ⟨(y :: t).dropLast, (y :: t).getLast (by simp), (List.dropLast_concat_getLast _).symm⟩
          rw [e, lastI_snoc] at hq
          injection hq with hq
          rw [e, hq]; simp
      obtain ⟨y, hy, _⟩ := chain_mem hi ((List.takeWhile_sublist _).subset this)
      exact (List.getElem?_eq_some_iff.1 hy).1
    have hinv := addS_inv (s := s) (ord := ord) (p := fun j => pth s ord x.k j) (nx := (List.range hh).map fun j => Sk.hd ((chain s ord j).dropWhile (bel s x.k))) (e := x) (b := sizeA ks + oneA (x, hh)) hi hneo (by rw [hnxl]; omega) (fun j hj => by
      rw [hnxl] at hj
      simp [hj]) (fun j _ => rfl) hpl
    refine Rt.some' ⟨rfl, w11, SkS b (fun j => R j ∨ On (.slice K' x.key.length kc') j ∨ On (.slice V' x.val.length vc') j) A9 c9 (nv ++ [⟨K', x.key.length, kc', x.seq, x.kind, V', x.val.length, vc', g, hh, hh⟩]), rfl, ?_, ?_, ⟨⟨_, _, ⟨_, _, _, _, hpush, fun _ => Iff.rfl⟩, hinv, ?_, ?_⟩, ?_⟩⟩
    · have a1 : Gx S w w7.drew := k06.gx.tr' g67 fun j hj e => by
        rcases e with e | e
        · exact (hSS j).2 e
        · omega
      refine (a1.tr k8.gx).tr' gAll fun j _ e => (hSS j).2 ?_
      rcases e with e | e
      · exact .inr (.inl e)
      · exact .inl e
    · intro j hj
      rcases hj with rfl | hj | ⟨i, v, hv, rfl⟩ | hj | hj | hj
      · exact .inl ((hSS _).2 (.inl rfl))
      · rw [List.length_append] at hj
        rcases f9 j hj with h | h
        · exact .inl ((hSS _).2 (.inr (.inl h)))
        · exact .inr (by have := k06.size; have := k8.size; omega)
      · rcases Nat.lt_or_ge i nv.length with hiv | hiv
        · rw [List.getElem?_append_left hiv] at hv
          exact .inl ((hSS _).2 (.inr (.inr (.inl ⟨i, v, hv, rfl⟩))))
        · rw [List.getElem?_append_right hiv] at hv
          have := (List.getElem?_eq_some_iff.1 hv).1
          rw [List.length_singleton] at this
          rw [show i - nv.length = 0 by omega] at hv
          injection hv with hv
          subst hv
          exact .inr (by dsimp only; omega)
      · exact .inl ((hSS _).2 (.inr (.inr (.inr hj))))
      · have := tK j hj; exact .inr (by omega)
      · have := tV j hj; exact .inr (by omega)
    · have htw := tw_map (l := ord) (f := prA s) (p := bel s x.k) (q := belA x.k) fun i hio => bel_belA hi hio
      have old : ∀ i, i ∈ ord → prA (addS s (fun j => pth s ord x.k j) ((List.range hh).map fun j => Sk.hd ((chain s ord j).dropWhile (bel s x.k))) x (sizeA ks + oneA (x, hh))) i = prA s i := fun i hio => by
        have hlt := hi.perm i hio
        have h4 := (insS_nd s (fun j => pth s ord x.k j) s.nodes.length ((List.range hh).map fun j => Sk.hd ((chain s ord j).dropWhile (bel s x.k))).length).2
        have e1 : (addS s (fun j => pth s ord x.k j) ((List.range hh).map fun j => Sk.hd ((chain s ord j).dropWhile (bel s x.k))) x (sizeA ks + oneA (x, hh))).nodes[i]? = (insS s (fun j => pth s ord x.k j) s.nodes.length ((List.range hh).map fun j => Sk.hd ((chain s ord j).dropWhile (bel s x.k))).length).nodes[i]? := by
          simp only [addS]; rw [List.getElem?_append_left (by omega)]
        have h5 := h4.2.2 i
        unfold prA
        rw [e1]
        cases h1 : (insS s (fun j => pth s ord x.k j) s.nodes.length ((List.range hh).map fun j => Sk.hd ((chain s ord j).dropWhile (bel s x.k))).length).nodes[i]? with
        | none => rw [h1] at h5; cases h2 : s.nodes[i]? with
          | none => rfl
          | some y => rw [h2] at h5; simp at h5
        | some y => rw [h1] at h5; cases h2 : s.nodes[i]? with
          | none => rw [h2] at h5; simp at h5
          | some z =>
            rw [h2] at h5
            simp only [Option.map_some, Option.some.injEq] at h5
            exact h5
      have hnew : prA (addS s (fun j => pth s ord x.k j) ((List.range hh).map fun j => Sk.hd ((chain s ord j).dropWhile (bel s x.k))) x (sizeA ks + oneA (x, hh))) s.nodes.length = (x, hh) := by
        unfold prA; rw [addS_new]
        show (x, List.length _) = (x, hh)
        rw [hnxl]
      have e1 : putA x hh ks = (ord.takeWhile (bel s x.k)).map (prA s) ++ (x, hh) :: (ord.dropWhile (bel s x.k)).map (prA s) := by unfold putA; rw [hks, htw.1, htw.2]
      rw [e1, List.map_append, List.map_cons, hnew]
      congr 1
      · exact List.map_congr_left fun i hio => (old i ((List.takeWhile_sublist _).subset hio)).symm
      · congr 1
        exact List.map_congr_left fun i hio => (old i ((List.dropWhile_sublist _).subset hio)).symm
    · rw [sizeA_put]; rfl
    · intro y hy
      unfold putA at hy
      rcases List.mem_append.1 hy with hy | hy
      · exact hok y ((List.takeWhile_sublist _).subset hy)
      · rcases List.mem_cons.1 hy with rfl | hy
        · exact ⟨hr, by dsimp only; omega, by dsimp only; omega⟩
        · exact hok y ((List.dropWhile_sublist _).subset hy)
theorem Insert_spec {K V : Option Addr} {kl kc vl vc : Nat} {s0 k0 H : Int} (h : SkA w base b S ks) (hx : EnV w K kl kc s0 k0 V vl vc x) (hb : base ≤ w.heap.size) (hN : ks.length ≤ 2 ^ 30) (hn : 2 ^ 60 < n) :
    Rt (skip_List_Insert n [pt b, ev K kl kc s0 k0 V vl vc, .int .i64 H] w) (RF S w [.int .i64 (insA x H ks).1] fun S' w' => SkA w' base b S' (insA x H ks).2) := by
  obtain ⟨⟨s, ord, hS, hi, hks, hby⟩, hok⟩ := id h
  have hol : ord.length = ks.length := by rw [hks, List.length_map]
  have hkl := hx.key.len
  have hvl := hx.val.len
  have hsq := hx.seq
  have hkd := hx.kind
  rw [skip_List_Insert_eq]
  refine Rt.fin (Rt.al fun w1 l1 k1 s1 => Rt.jmX (Rt.mono (Q' := fun r => (r.ex = .norm ∧ r.vals = [pt b, .int .i64 H, .pointer (some ⟨w.heap.size, 0, none⟩)] ∧ Kp w r.w ∧ Lc r.w w.heap.size [.slice K kl kc, .int .u64 s0, .int .i64 k0, .slice V vl vc] ∧ rightE x) ∨ (r.ex = .ret ∧ r.vals = [.int .i64 1] ∧ Kp w r.w ∧ ¬ rightE x)) ?_ ?_))
  · (repeat (first | (with_reducible (first | refine Rt.fin ?_ | refine Rt.tL ?_ | refine Rt.tI ?_ | refine Rt.tB ?_ | refine Rt.tS ?_ | refine Rt.tP ?_ | refine Rt.tD ?_ | refine Rt.tM ?_ | refine Rt.tC ?_ | refine Rt.tN ?_ | refine Rt.tA ?_ | refine Rt.tG ?_ | refine Rt.tF ?_ | refine Rt.os ?_ | refine Rt.clS ?_ | refine Rt.jmN ?_ | refine Rt.jbN ?_ | refine Rt.jbE ?_)) | ((with_reducible (first | apply Rt.ld0 | apply Rt.ld1 | apply Rt.ld2 | apply Rt.ld3 | apply Rt.ld4 | apply Rt.ld5)); first | assumption | exact Lc.kp (by assumption) (by assumption)) | ((with_reducible apply Rt.ol); first | assumption | exact cell_kp (by assumption) (by assumption)) | ((with_reducible apply Rt.ckR); focus ((repeat (first | (with_reducible (first | refine Rt.fin ?_ | refine Rt.tL ?_ | refine Rt.tI ?_ | refine Rt.tB ?_ | refine Rt.tS ?_ | refine Rt.tP ?_ | refine Rt.tD ?_ | refine Rt.tM ?_ | refine Rt.tC ?_ | refine Rt.tN ?_ | refine Rt.tA ?_ | refine Rt.tG ?_ | refine Rt.tF ?_ | refine Rt.os ?_ | refine Rt.clS ?_ | refine Rt.jmN ?_ | refine Rt.jbN ?_ | refine Rt.jbE ?_)) | ((with_reducible (first | apply Rt.ld0 | apply Rt.ld1 | apply Rt.ld2 | apply Rt.ld3 | apply Rt.ld4 | apply Rt.ld5)); first | assumption | exact Lc.kp (by assumption) (by assumption)) | ((with_reducible apply Rt.ol); first | assumption | exact cell_kp (by assumption) (by assumption)))); exact Rt.some' rfl))))
    refine Rt.cBo (Right_spec (hx.kp k1).kv) fun q w2 hq k2 => ?_
    have k12 := k1.tr k2
    have l2 := l1.kp k2
    cases q with
    | false => exact Rt.cT rfl (Rt.some' (.inr ⟨rfl, rfl, k12, fun h => by simpa using hq.2 h.1⟩))
    | true =>
      have hr := hq.1 rfl
      refine Rt.cF rfl ?_
      (repeat (first | (with_reducible (first | refine Rt.fin ?_ | refine Rt.tL ?_ | refine Rt.tI ?_ | refine Rt.tB ?_ | refine Rt.tS ?_ | refine Rt.tP ?_ | refine Rt.tD ?_ | refine Rt.tM ?_ | refine Rt.tC ?_ | refine Rt.tN ?_ | refine Rt.tA ?_ | refine Rt.tG ?_ | refine Rt.tF ?_ | refine Rt.os ?_ | refine Rt.clS ?_ | refine Rt.jmN ?_ | refine Rt.jbN ?_ | refine Rt.jbE ?_)) | ((with_reducible (first | apply Rt.ld0 | apply Rt.ld1 | apply Rt.ld2 | apply Rt.ld3 | apply Rt.ld4 | apply Rt.ld5)); first | assumption | exact Lc.kp (by assumption) (by assumption)) | ((with_reducible apply Rt.ol); first | assumption | exact cell_kp (by assumption) (by assumption)) | ((with_reducible apply Rt.ckR); focus ((repeat (first | (with_reducible (first | refine Rt.fin ?_ | refine Rt.tL ?_ | refine Rt.tI ?_ | refine Rt.tB ?_ | refine Rt.tS ?_ | refine Rt.tP ?_ | refine Rt.tD ?_ | refine Rt.tM ?_ | refine Rt.tC ?_ | refine Rt.tN ?_ | refine Rt.tA ?_ | refine Rt.tG ?_ | refine Rt.tF ?_ | refine Rt.os ?_ | refine Rt.clS ?_ | refine Rt.jmN ?_ | refine Rt.jbN ?_ | refine Rt.jbE ?_)) | ((with_reducible (first | apply Rt.ld0 | apply Rt.ld1 | apply Rt.ld2 | apply Rt.ld3 | apply Rt.ld4 | apply Rt.ld5)); first | assumption | exact Lc.kp (by assumption) (by assumption)) | ((with_reducible apply Rt.ol); first | assumption | exact cell_kp (by assumption) (by assumption)))); exact Rt.some' rfl))))
      refine Rt.cD (fun h1 => Rt.some' (.inr ⟨rfl, rfl, k12, fun h => by have := h.2.1; omega⟩)) fun h1 => ?_
      (repeat (first | (with_reducible (first | refine Rt.fin ?_ | refine Rt.tL ?_ | refine Rt.tI ?_ | refine Rt.tB ?_ | refine Rt.tS ?_ | refine Rt.tP ?_ | refine Rt.tD ?_ | refine Rt.tM ?_ | refine Rt.tC ?_ | refine Rt.tN ?_ | refine Rt.tA ?_ | refine Rt.tG ?_ | refine Rt.tF ?_ | refine Rt.os ?_ | refine Rt.clS ?_ | refine Rt.jmN ?_ | refine Rt.jbN ?_ | refine Rt.jbE ?_)) | ((with_reducible (first | apply Rt.ld0 | apply Rt.ld1 | apply Rt.ld2 | apply Rt.ld3 | apply Rt.ld4 | apply Rt.ld5)); first | assumption | exact Lc.kp (by assumption) (by assumption)) | ((with_reducible apply Rt.ol); first | assumption | exact cell_kp (by assumption) (by assumption)) | ((with_reducible apply Rt.ckR); focus ((repeat (first | (with_reducible (first | refine Rt.fin ?_ | refine Rt.tL ?_ | refine Rt.tI ?_ | refine Rt.tB ?_ | refine Rt.tS ?_ | refine Rt.tP ?_ | refine Rt.tD ?_ | refine Rt.tM ?_ | refine Rt.tC ?_ | refine Rt.tN ?_ | refine Rt.tA ?_ | refine Rt.tG ?_ | refine Rt.tF ?_ | refine Rt.os ?_ | refine Rt.clS ?_ | refine Rt.jmN ?_ | refine Rt.jbN ?_ | refine Rt.jbE ?_)) | ((with_reducible (first | apply Rt.ld0 | apply Rt.ld1 | apply Rt.ld2 | apply Rt.ld3 | apply Rt.ld4 | apply Rt.ld5)); first | assumption | exact Lc.kp (by assumption) (by assumption)) | ((with_reducible apply Rt.ol); first | assumption | exact cell_kp (by assumption) (by assumption)))); exact Rt.some' rfl))))
      refine Rt.cQ (fun h2 => ?_) fun h2 => ?_
      · (repeat (first | (with_reducible (first | refine Rt.fin ?_ | refine Rt.tL ?_ | refine Rt.tI ?_ | refine Rt.tB ?_ | refine Rt.tS ?_ | refine Rt.tP ?_ | refine Rt.tD ?_ | refine Rt.tM ?_ | refine Rt.tC ?_ | refine Rt.tN ?_ | refine Rt.tA ?_ | refine Rt.tG ?_ | refine Rt.tF ?_ | refine Rt.os ?_ | refine Rt.clS ?_ | refine Rt.jmN ?_ | refine Rt.jbN ?_ | refine Rt.jbE ?_)) | ((with_reducible (first | apply Rt.ld0 | apply Rt.ld1 | apply Rt.ld2 | apply Rt.ld3 | apply Rt.ld4 | apply Rt.ld5)); first | assumption | exact Lc.kp (by assumption) (by assumption)) | ((with_reducible apply Rt.ol); first | assumption | exact cell_kp (by assumption) (by assumption)) | ((with_reducible apply Rt.ckR); focus ((repeat (first | (with_reducible (first | refine Rt.fin ?_ | refine Rt.tL ?_ | refine Rt.tI ?_ | refine Rt.tB ?_ | refine Rt.tS ?_ | refine Rt.tP ?_ | refine Rt.tD ?_ | refine Rt.tM ?_ | refine Rt.tC ?_ | refine Rt.tN ?_ | refine Rt.tA ?_ | refine Rt.tG ?_ | refine Rt.tF ?_ | refine Rt.os ?_ | refine Rt.clS ?_ | refine Rt.jmN ?_ | refine Rt.jbN ?_ | refine Rt.jbE ?_)) | ((with_reducible (first | apply Rt.ld0 | apply Rt.ld1 | apply Rt.ld2 | apply Rt.ld3 | apply Rt.ld4 | apply Rt.ld5)); first | assumption | exact Lc.kp (by assumption) (by assumption)) | ((with_reducible apply Rt.ol); first | assumption | exact cell_kp (by assumption) (by assumption)))); exact Rt.some' rfl))))
        refine Rt.cD (fun h3 => Rt.some' (.inr ⟨rfl, rfl, k12, fun h => by have := h.2.2 (by omega); omega⟩)) fun h3 => ?_
        exact Rt.some' (.inl ⟨rfl, rfl, k12, l2, hr, by omega, fun _ => by omega⟩)
      · exact Rt.some' (.inl ⟨rfl, rfl, k12, l2, hr, by omega, fun h => by omega⟩)
  · rintro ⟨ex, vs, w2⟩ (⟨e1, e2, k2, l2, hr⟩ | ⟨e1, e2, k2, hr⟩)
    · dsimp only at e1 e2 k2 l2
      subst e1 e2
      refine .inl ⟨rfl, ?_⟩
      dsimp only
      (repeat (first | (with_reducible (first | refine Rt.fin ?_ | refine Rt.tL ?_ | refine Rt.tI ?_ | refine Rt.tB ?_ | refine Rt.tS ?_ | refine Rt.tP ?_ | refine Rt.tD ?_ | refine Rt.tM ?_ | refine Rt.tC ?_ | refine Rt.tN ?_ | refine Rt.tA ?_ | refine Rt.tG ?_ | refine Rt.tF ?_ | refine Rt.os ?_ | refine Rt.clS ?_ | refine Rt.jmN ?_ | refine Rt.jbN ?_ | refine Rt.jbE ?_)) | ((with_reducible (first | apply Rt.ld0 | apply Rt.ld1 | apply Rt.ld2 | apply Rt.ld3 | apply Rt.ld4 | apply Rt.ld5)); first | assumption | exact Lc.kp (by assumption) (by assumption)) | ((with_reducible apply Rt.ol); first | assumption | exact cell_kp (by assumption) (by assumption)) | ((with_reducible apply Rt.ckR); focus ((repeat (first | (with_reducible (first | refine Rt.fin ?_ | refine Rt.tL ?_ | refine Rt.tI ?_ | refine Rt.tB ?_ | refine Rt.tS ?_ | refine Rt.tP ?_ | refine Rt.tD ?_ | refine Rt.tM ?_ | refine Rt.tC ?_ | refine Rt.tN ?_ | refine Rt.tA ?_ | refine Rt.tG ?_ | refine Rt.tF ?_ | refine Rt.os ?_ | refine Rt.clS ?_ | refine Rt.jmN ?_ | refine Rt.jbN ?_ | refine Rt.jbE ?_)) | ((with_reducible (first | apply Rt.ld0 | apply Rt.ld1 | apply Rt.ld2 | apply Rt.ld3 | apply Rt.ld4 | apply Rt.ld5)); first | assumption | exact Lc.kp (by assumption) (by assumption)) | ((with_reducible apply Rt.ol); first | assumption | exact cell_kp (by assumption) (by assumption)))); exact Rt.some' rfl))))
      have hS2 := hS.kp k2
      have hN' : s.nodes.length ≤ 2 ^ 30 := by rw [← hi.len]; omega
      obtain ⟨_, e, w3, rfl, k3⟩ := path_spec (n := n) hS2 hi (hx.kp k2).kv (by omega) hN'
      refine Rt.cl e ?_
      unfold v12
      (repeat (first | (with_reducible (first | refine Rt.fin ?_ | refine Rt.tL ?_ | refine Rt.tI ?_ | refine Rt.tB ?_ | refine Rt.tS ?_ | refine Rt.tP ?_ | refine Rt.tD ?_ | refine Rt.tM ?_ | refine Rt.tC ?_ | refine Rt.tN ?_ | refine Rt.tA ?_ | refine Rt.tG ?_ | refine Rt.tF ?_ | refine Rt.os ?_ | refine Rt.clS ?_ | refine Rt.jmN ?_ | refine Rt.jbN ?_ | refine Rt.jbE ?_)) | ((with_reducible (first | apply Rt.ld0 | apply Rt.ld1 | apply Rt.ld2 | apply Rt.ld3 | apply Rt.ld4 | apply Rt.ld5)); first | assumption | exact Lc.kp (by assumption) (by assumption)) | ((with_reducible apply Rt.ol); first | assumption | exact cell_kp (by assumption) (by assumption)) | ((with_reducible apply Rt.ckR); focus ((repeat (first | (with_reducible (first | refine Rt.fin ?_ | refine Rt.tL ?_ | refine Rt.tI ?_ | refine Rt.tB ?_ | refine Rt.tS ?_ | refine Rt.tP ?_ | refine Rt.tD ?_ | refine Rt.tM ?_ | refine Rt.tC ?_ | refine Rt.tN ?_ | refine Rt.tA ?_ | refine Rt.tG ?_ | refine Rt.tF ?_ | refine Rt.os ?_ | refine Rt.clS ?_ | refine Rt.jmN ?_ | refine Rt.jbN ?_ | refine Rt.jbE ?_)) | ((with_reducible (first | apply Rt.ld0 | apply Rt.ld1 | apply Rt.ld2 | apply Rt.ld3 | apply Rt.ld4 | apply Rt.ld5)); first | assumption | exact Lc.kp (by assumption) (by assumption)) | ((with_reducible apply Rt.ol); first | assumption | exact cell_kp (by assumption) (by assumption)))); exact Rt.some' rfl))))
      have k23 := k2.tr k3
      have l3 := l2.kp k3
      refine Rt.al12 (f := fun j => en (pth s ord x.k j)) fun w4 l4 k4 s4 => ?_
      have k24 := k23.tr k4
      have l04 := l3.kp k4
      have hL0 := hi.lnk 0 (by decide)
      rw [← List.takeWhile_append_dropWhile (p := bel s x.k) (l := chain s ord 0)] at hL0
      have haft0 := hL0.behind.hd
      rw [chain_0 hi] at haft0
      have hp0 : pth s ord x.k 0 = lastI (ord.takeWhile (bel s x.k)) := by rw [pth, chain_0 hi]
      rw [← hp0] at haft0
      have hmem : ∀ {P : Prop}, ((∃ y ∈ ks, cmpK y.1.k x.k = 0) ↔ P) ↔ ((∃ i r, ord.dropWhile (bel s x.k) = i :: r ∧ cmpK (ky s i) x.k = 0) ↔ P) := fun {P} => by
        rw [← equal_hd hi]
        have : (∃ y ∈ ks, cmpK y.1.k x.k = 0) ↔ ∃ i ∈ ord, cmpK (ky s i) x.k = 0 := by
          rw [hks]
          constructor
          · rintro ⟨y, hy, he⟩
            obtain ⟨i, hio, rfl⟩ := List.mem_map.1 hy
            obtain ⟨z, _, h2, h3, _⟩ := prA_at hi hio
            exact ⟨i, hio, by rw [h3]; rw [h2] at he; exact he⟩
          · rintro ⟨i, hio, he⟩
            obtain ⟨z, _, h2, h3, _⟩ := prA_at hi hio
            exact ⟨prA s i, List.mem_map.2 ⟨i, hio, rfl⟩, by rw [h2]; rw [h3] at he; exact he⟩
        rw [this]
      refine Rt.jmX (Rt.mono (Q' := fun r => (r.ex = .norm ∧ r.vals = [pt b, .int .i64 H, .pointer (some ⟨w.heap.size, 0, none⟩), .pointer (some ⟨w3.heap.size, 0, none⟩)] ∧ Kp w4 r.w ∧ ¬ (∃ y ∈ ks, cmpK y.1.k x.k = 0)) ∨ (r.ex = .ret ∧ r.vals = [.int .i64 9] ∧ Kp w4 r.w ∧ (∃ y ∈ ks, cmpK y.1.k x.k = 0))) ?_ ?_)
      · refine Rt.ixRb (by decide) (by decide) (Rt.ol (by rw [l4.ld]; rfl) (Rt.tI ?_))
        have hS4 := hS.kp k24
        obtain ⟨_, e, rfl⟩ := after_spec (n := n) (j := 0) hS4 haft0 (by decide)
        refine Rt.cl e ?_
        (repeat (first | (with_reducible (first | refine Rt.fin ?_ | refine Rt.tL ?_ | refine Rt.tI ?_ | refine Rt.tB ?_ | refine Rt.tS ?_ | refine Rt.tP ?_ | refine Rt.tD ?_ | refine Rt.tM ?_ | refine Rt.tC ?_ | refine Rt.tN ?_ | refine Rt.tA ?_ | refine Rt.tG ?_ | refine Rt.tF ?_ | refine Rt.os ?_ | refine Rt.clS ?_ | refine Rt.jmN ?_ | refine Rt.jbN ?_ | refine Rt.jbE ?_)) | ((with_reducible (first | apply Rt.ld0 | apply Rt.ld1 | apply Rt.ld2 | apply Rt.ld3 | apply Rt.ld4 | apply Rt.ld5)); first | assumption | exact Lc.kp (by assumption) (by assumption)) | ((with_reducible apply Rt.ol); first | assumption | exact cell_kp (by assumption) (by assumption)) | ((with_reducible apply Rt.ckR); focus ((repeat (first | (with_reducible (first | refine Rt.fin ?_ | refine Rt.tL ?_ | refine Rt.tI ?_ | refine Rt.tB ?_ | refine Rt.tS ?_ | refine Rt.tP ?_ | refine Rt.tD ?_ | refine Rt.tM ?_ | refine Rt.tC ?_ | refine Rt.tN ?_ | refine Rt.tA ?_ | refine Rt.tG ?_ | refine Rt.tF ?_ | refine Rt.os ?_ | refine Rt.clS ?_ | refine Rt.jmN ?_ | refine Rt.jbN ?_ | refine Rt.jbE ?_)) | ((with_reducible (first | apply Rt.ld0 | apply Rt.ld1 | apply Rt.ld2 | apply Rt.ld3 | apply Rt.ld4 | apply Rt.ld5)); first | assumption | exact Lc.kp (by assumption) (by assumption)) | ((with_reducible apply Rt.ol); first | assumption | exact cell_kp (by assumption) (by assumption)))); exact Rt.some' rfl))))
        refine Rt.cN (fun hd => ?_) fun hd => ?_
        · have hno : ord.dropWhile (bel s x.k) = [] := by
            cases hdw : ord.dropWhile (bel s x.k) with
            | nil => rfl
            | cons q r => rw [hdw] at hd; simp [Sk.hd, en] at hd
          refine Rt.some' (.inl ⟨rfl, rfl, (Kp.rfl' _).dr, fun he => ?_⟩)
          have := (hmem (P := False)).2 ⟨fun ⟨i, r, e, _⟩ => (by rw [hno] at e; cases e), fun h => h.elim⟩
          exact this.1 he
        · cases hdw : ord.dropWhile (bel s x.k) with
          | nil => rw [hdw] at hd; exact absurd rfl hd
          | cons q r =>
            have hqo : q ∈ ord := (List.dropWhile_sublist (bel s x.k)).subset (by rw [hdw]; exact List.mem_cons_self)
            obtain ⟨y, hy, _, hky, _⟩ := prA_at hi hqo
            have kd := k24.dr
            obtain ⟨R, A, c, nv, hV, _⟩ := hS.kp kd
            have l04d := l04.dr'
            refine Rt.os (Rt.ldn hV.lc (blk_12 s _ _ _ hV.fst) (Rt.tL (Rt.ixNd hV hy fun a v hv hd c0 c1 c2 c3 c4 => ?_)))
            (repeat (first | (with_reducible (first | refine Rt.fin ?_ | refine Rt.tL ?_ | refine Rt.tI ?_ | refine Rt.tB ?_ | refine Rt.tS ?_ | refine Rt.tP ?_ | refine Rt.tD ?_ | refine Rt.tM ?_ | refine Rt.tC ?_ | refine Rt.tN ?_ | refine Rt.tA ?_ | refine Rt.tG ?_ | refine Rt.tF ?_ | refine Rt.os ?_ | refine Rt.clS ?_ | refine Rt.jmN ?_ | refine Rt.jbN ?_ | refine Rt.jbE ?_)) | ((with_reducible (first | apply Rt.ld0 | apply Rt.ld1 | apply Rt.ld2 | apply Rt.ld3 | apply Rt.ld4 | apply Rt.ld5)); first | assumption | exact Lc.kp (by assumption) (by assumption)) | ((with_reducible apply Rt.ol); first | assumption | exact cell_kp (by assumption) (by assumption)) | ((with_reducible apply Rt.ckR); focus ((repeat (first | (with_reducible (first | refine Rt.fin ?_ | refine Rt.tL ?_ | refine Rt.tI ?_ | refine Rt.tB ?_ | refine Rt.tS ?_ | refine Rt.tP ?_ | refine Rt.tD ?_ | refine Rt.tM ?_ | refine Rt.tC ?_ | refine Rt.tN ?_ | refine Rt.tA ?_ | refine Rt.tG ?_ | refine Rt.tF ?_ | refine Rt.os ?_ | refine Rt.clS ?_ | refine Rt.jmN ?_ | refine Rt.jbN ?_ | refine Rt.jbE ?_)) | ((with_reducible (first | apply Rt.ld0 | apply Rt.ld1 | apply Rt.ld2 | apply Rt.ld3 | apply Rt.ld4 | apply Rt.ld5)); first | assumption | exact Lc.kp (by assumption) (by assumption)) | ((with_reducible apply Rt.ol); first | assumption | exact cell_kp (by assumption) (by assumption)))); exact Rt.some' rfl))))
            refine Rt.cI (Compare_spec (by omega) hd.ent.out.kv (hx.kp kd).kv) fun w5 k5 => ?_
            have k45 := (Kp.rfl' w4).dr.tr k5
            refine Rt.cQ (fun he => ?_) fun he => ?_
            · exact Rt.some' (.inr ⟨rfl, rfl, k45, ((hmem (P := True)).2 ⟨fun _ => trivial, fun _ => ⟨q, r, hdw, by rw [hky]; exact he⟩⟩).2 trivial⟩)
            · refine Rt.some' (.inl ⟨rfl, rfl, k45, fun h => ((hmem (P := False)).2 ⟨fun ⟨i, r', e, e'⟩ => ?_, fun h => h.elim⟩).1 h⟩)
              rw [hdw] at e
              injection e with e _
              subst e
              rw [hky] at e'
              exact he e'
      · rintro ⟨ex, vs, w5⟩ (⟨e1, e2, k5, hne⟩ | ⟨e1, e2, k5, heq⟩)
        · dsimp only at e1 e2 k5
          subst e1 e2
          refine .inl ⟨rfl, ?_⟩
          dsimp only
          (repeat (first | (with_reducible (first | refine Rt.fin ?_ | refine Rt.tL ?_ | refine Rt.tI ?_ | refine Rt.tB ?_ | refine Rt.tS ?_ | refine Rt.tP ?_ | refine Rt.tD ?_ | refine Rt.tM ?_ | refine Rt.tC ?_ | refine Rt.tN ?_ | refine Rt.tA ?_ | refine Rt.tG ?_ | refine Rt.tF ?_ | refine Rt.os ?_ | refine Rt.clS ?_ | refine Rt.jmN ?_ | refine Rt.jbN ?_ | refine Rt.jbE ?_)) | ((with_reducible (first | apply Rt.ld0 | apply Rt.ld1 | apply Rt.ld2 | apply Rt.ld3 | apply Rt.ld4 | apply Rt.ld5)); first | assumption | exact Lc.kp (by assumption) (by assumption)) | ((with_reducible apply Rt.ol); first | assumption | exact cell_kp (by assumption) (by assumption)) | ((with_reducible apply Rt.ckR); focus ((repeat (first | (with_reducible (first | refine Rt.fin ?_ | refine Rt.tL ?_ | refine Rt.tI ?_ | refine Rt.tB ?_ | refine Rt.tS ?_ | refine Rt.tP ?_ | refine Rt.tD ?_ | refine Rt.tM ?_ | refine Rt.tC ?_ | refine Rt.tN ?_ | refine Rt.tA ?_ | refine Rt.tG ?_ | refine Rt.tF ?_ | refine Rt.os ?_ | refine Rt.clS ?_ | refine Rt.jmN ?_ | refine Rt.jbN ?_ | refine Rt.jbE ?_)) | ((with_reducible (first | apply Rt.ld0 | apply Rt.ld1 | apply Rt.ld2 | apply Rt.ld3 | apply Rt.ld4 | apply Rt.ld5)); first | assumption | exact Lc.kp (by assumption) (by assumption)) | ((with_reducible apply Rt.ol); first | assumption | exact cell_kp (by assumption) (by assumption)))); exact Rt.some' rfl))))
          have k05 := k24.tr k5
          have hins : insA x H ks = (0, putA x (clampI H).toNat ks) := by unfold insA; rw [if_neg (by simpa using hr), if_neg hne]
          rw [hins]
          exact Insert_in h hx hb hN hn hS hi hks hby hok hr hne k05 (Nat.le_refl _) (by have := k23.size; omega) (l04.kp k5) (l4.kp k5)
        · dsimp only at e1 e2 k5
          subst e1 e2
          refine .inr ⟨by simp, rfl, w5, S, by unfold insA; rw [if_neg (by simpa using hr), if_pos heq], (k24.tr k5).gx, fun j hj => .inl hj, ?_⟩
          unfold insA
          rw [if_neg (by simpa using hr), if_pos heq]
          exact h.kp (k24.tr k5)
    · dsimp only at e1 e2 k2
      subst e1 e2
      refine .inr ⟨by simp, rfl, w2, S, by unfold insA; rw [if_pos hr], k2.gx, fun j hj => .inl hj, ?_⟩
      unfold insA
      rw [if_pos hr]
      exact h.kp k2
end
end Go.Proofs.Ytoilmnplocfipaa.Sk
