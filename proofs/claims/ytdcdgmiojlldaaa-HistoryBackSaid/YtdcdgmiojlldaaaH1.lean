/- The sort: the comparison and the exchange, in whatever world that the sort passes through. -/
import Derived.Test.YtdcdgmiojlldaaaH0
namespace Go.Proofs.Ytdcdgmiojlldaaa.Hi
open Go Big Go.RowKit Go.IntWalk
set_option linter.unusedVariables false
set_option linter.unusedSimpArgs false
/-- How two rows of bytes compare. -/
noncomputable def cmpB (a b : List Int) : Int := Lib.compareBytes (Big.str a).data.toList (Big.str b).data.toList
section
variable {α : Type} {Q : α → Prop} {n m base : Nat} {w w' w0 w1 : World} {A B C D : Option Addr} {l c m1 d1 m2 d2 : Nat} {xs : List PV} {i j p q r s : Int} {bs cs : List Int}
theorem Compare_spec (h1 : Bv .u8 w A l c bs) (h2 : Bv .u8 w B m1 d1 cs) : bytes_Compare n [.slice A l c, .slice B m1 d1] w = some ([.int .i64 (cmpB bs cs)], w) := by
  have e : bytealg_Compare n [.slice A l c, .slice B m1 d1] w = some ([.int .i64 (cmpB bs cs)], w) := by
    show cmpRun [.slice A l c, .slice B m1 d1] w = _
    show opt (strOf w A l) (fun s => opt (strOf w B m1) fun t => some ([Value.int .i64 (Lib.compareBytes s.data.toList t.data.toList)], w)) = _
    rw [strOf_ok h1.sl, strOf_ok h2.sl]; rfl
  rw [bytes_Compare_eq, e]; rfl
/-- The comparison of pairs: two blocks are laid, all else stays. -/
theorem pairs1_spec {vA vB : Option Addr} {vl vc wl wc : Nat} (h1 : Bv .u8 w A l c bs) (h2 : Bv .u8 w B m1 d1 cs) :
    history_pairs_1 n [.agg #[.slice A l c, .slice vA vl vc], .agg #[.slice B m1 d1, .slice vB wl wc]] w = some ([.int .i64 (cmpB bs cs)], (w.alloc (.cells #[.slice A l c, .slice vA vl vc] 33)).alloc (.cells #[.slice B m1 d1, .slice vB wl wc] 33)) := by
  rw [history_pairs_1_eq, al_eq, al_eq]
  have k1 : Kp w (w.alloc (.cells #[.slice A l c, .slice vA vl vc] 33)) := (Kp.rfl' w).al _
  have l1 : Lc (w.alloc (.cells #[.slice A l c, .slice vA vl vc] 33)) w.heap.size [.slice A l c, .slice vA vl vc] := Lc.new w _ _
  generalize w.alloc (.cells #[.slice A l c, .slice vA vl vc] 33) = w1 at k1 l1 ⊢
  have k2 : Kp w1 (w1.alloc (.cells #[.slice B m1 d1, .slice vB wl wc] 33)) := (Kp.rfl' w1).al _
  have l2 : Lc (w1.alloc (.cells #[.slice B m1 d1, .slice vB wl wc] 33)) w1.heap.size [.slice B m1 d1, .slice vB wl wc] := Lc.new w1 _ _
  generalize w1.alloc (.cells #[.slice B m1 d1, .slice vB wl wc] 33) = w2 at k2 l2 ⊢
  rw [(l1.kp k2).ld0, l2.ld0]
  have key : Rt (fin (opt (some (Value.slice A l c)) fun v3 => tL v3 fun A4 l5 c6 => opt (some (Value.slice B m1 d1)) fun v7 => tL v7 fun A8 l9 c10 => cl (bytes_Compare n [Value.slice A4 l5 c6, Value.slice A8 l9 c10] w2) fun vs11 w12 => tC vs11 fun v13 cs14 => tI IntKind.i64 v13 fun n15 => tN cs14 (some (⟨.ret, [Value.int IntKind.i64 n15], w12⟩ : Res)))) fun r => r = ([.int .i64 (cmpB bs cs)], w2) := by
    refine Rt.fin (Rt.os (Rt.tL (Rt.os (Rt.tL (Rt.cl (Compare_spec (h1.kp (k1.tr k2)) (h2.kp (k1.tr k2))) (Rt.tC (Rt.tI (Rt.tN ?_))))))))
    exact Rt.some' ⟨rfl, rfl⟩
  obtain ⟨r, e, rfl⟩ := key
  exact e
/-- A world that the sort passes through. -/
structure Iv (T : List PV) (kb : PV → List Int) (w0 w : World) (base : Nat) (A : Option Addr) (l c : Nat) : Prop where
  row : ∃ xs, Row2 w base A l c xs ∧ ∀ x ∈ xs, x ∈ T
  key : ∀ x ∈ T, Stb (fun j => On (.slice A l c) j ∨ w0.heap.size ≤ j) (fun w => Bv .u8 w x.kA x.kl x.kc (kb x)) w
  gx : Gx (On (.slice A l c)) w0 w
variable {T : List PV} {kb : PV → List Int}
theorem Iv.kp (h : Iv T kb w0 w base A l c) (k : Kp w w') : Iv T kb w0 w' base A l c := by
  obtain ⟨xs, h1, h2⟩ := h.row
  exact ⟨⟨xs, h1.kp k, h2⟩, fun x hx => (h.key x hx).kp k, h.gx.tr k.gx⟩
theorem Iv.dr (h : Iv T kb w0 w base A l c) : Iv T kb w0 w.drew base A l c := h.kp (Kp.rfl' w).dr
/-- A new block is written. -/
theorem Iv.gxN (h : Iv T kb w0 w base A l c) {G : Nat → Prop} (g : Gx G w w') (hG : ∀ j, G j → w0.heap.size ≤ j ∧ ¬ On (.slice A l c) j) : Iv T kb w0 w' base A l c := by
  obtain ⟨xs, h1, h2⟩ := h.row
  refine ⟨⟨xs, ⟨h1.len, ?_⟩, h2⟩, fun x hx => (h.key x hx).on (g.wide fun k _ hk => .inr (hG k hk).1), ?_⟩
  · refine ⟨h1.own.1, h1.own.2.imp id ?_⟩
    rintro ⟨g', cap, cur, e1, e2, e3, e4⟩
    exact ⟨g', cap, cur, e1, e2, by rw [g.block g' (Array.getElem?_eq_some_iff.1 e3).1 fun hs => (hG g' hs).2 (by rw [e1]; rfl)]; exact e3, e4⟩
  · exact h.gx.tr' g fun k hk hg => by have := (hG k hg).1; omega
theorem Rt.cmpK (h : Iv T kb w0 w base A l c) (hi : 0 ≤ i ∧ i < l) (hj : 0 ≤ j ∧ j < l) {orc : Orc} (ho : Big.look 23 orc = some (history_pairs_1 n)) {K : Int → World → Option α} (hK : ∀ k w', Iv T kb w0 w' base A l c → Kp w w' → Rt (K k w') Q) :
    Rt (ixA A l i 2 fun ad1 => opt (w.drew.cell? ad1) fun v2 => tL v2 fun A3 l4 c5 => opt (w.drew.cell? (Addr.add ad1 1)) fun v6 => tL v6 fun A7 l8 c9 => ixA A l j 2 fun ad10 => opt (w.drew.cell? ad10) fun v11 => tL v11 fun A12 l13 c14 => opt (w.drew.cell? (Addr.add ad10 1)) fun v15 => tL v15 fun A16 l17 c18 => tG (.func 23) fun gq21 => opt (Big.look gq21 orc) fun run22 => cl (run22 ((#[] : Array Value).toList ++ [(.agg #[(.slice A3 l4 c5), (.slice A7 l8 c9)]), (.agg #[(.slice A12 l13 c14), (.slice A16 l17 c18)])] ++ (#[] : Array Value).toList) w.drew) fun vs19 w20 => tC vs19 fun v23 cs24 => tI .i64 v23 fun n25 => tN cs24 (K n25 w20)) Q := by
  obtain ⟨xs, h1, h2⟩ := h.row
  have hd := h.dr
  have h1d := h1.kp (Kp.rfl' w).dr
  refine Rt.ldP h1d hi fun x hx => Rt.ldP h1d hj fun y hy => ?_
  refine Rt.tG (Rt.ol ho ?_)
  have b1 := (hd.key x (h2 x (List.mem_of_getElem? hx))).out
  have b2 := (hd.key y (h2 y (List.mem_of_getElem? hy))).out
  refine Rt.cl (pairs1_spec (n := n) b1 b2) (Rt.tC (Rt.tI (Rt.tN ?_)))
  have k1 := ((Kp.rfl' w.drew).al (.cells #[.slice x.kA x.kl x.kc, .slice x.vA x.vl x.vc] 33)).al (.cells #[.slice y.kA y.kl y.kc, .slice y.vA y.vl y.vc] 33)
  exact hK _ _ (hd.kp k1) ((Kp.rfl' w).dr.tr k1)
theorem Rt.swpK (h : Iv T kb w0 w base A l c) (hp : 0 ≤ p ∧ p < l) (hq : 0 ≤ q ∧ q < l) (hr : 0 ≤ r ∧ r < l) (hs : 0 ≤ s ∧ s < l) {K : World → Option α} (hK : ∀ w', Iv T kb w0 w' base A l c → Gx (On (.slice A l c)) w w' → Rt (K w') Q) :
    Rt (ixA A l p 2 fun ad26 => opt (w.drew.cell? ad26) fun v27 => tL v27 fun A28 l29 c30 => opt (w.drew.cell? (Addr.add ad26 1)) fun v31 => tL v31 fun A32 l33 c34 => ixA A l q 2 fun ad35 => opt (w.drew.cell? ad35) fun v36 => tL v36 fun A37 l38 c39 => opt (w.drew.cell? (Addr.add ad35 1)) fun v40 => tL v40 fun A41 l42 c43 => ixA A l r 2 fun ad44 => stC w.drew ad44 (.slice A28 l29 c30) fun w45 => stC w45 (Addr.add ad44 1) (.slice A32 l33 c34) fun w46 => ixA A l s 2 fun ad47 => stC w46 ad47 (.slice A37 l38 c39) fun w48 => stC w48 (Addr.add ad47 1) (.slice A41 l42 c43) K) Q := by
  obtain ⟨xs, h1, h2⟩ := h.row
  have hd := h.dr
  have h1d := h1.kp (Kp.rfl' w).dr
  refine Rt.ldP h1d hp fun x hx => Rt.ldP h1d hq fun y hy => ?_
  refine Rt.stP h1d hr x fun w1 r1 g1 => Rt.stP r1 hs y fun w2 r2 g2 => ?_
  have g12 := g1.tr g2
  refine hK w2 ⟨⟨_, r2, fun z hz => ?_⟩, fun z hz => (hd.key z hz).on (g12.wide fun k _ hk => .inl hk), hd.gx.tr g12⟩ ((Kp.rfl' w).dr.gx.tr g12)
  rcases List.mem_or_eq_of_mem_set hz with hz | rfl
  · rcases List.mem_or_eq_of_mem_set hz with hz | rfl
    · exact h2 z hz
    · exact h2 _ (List.mem_of_getElem? hx)
  · exact h2 _ (List.mem_of_getElem? hy)
theorem Rt.cmpR (h : Iv T kb w0 w base A l c) (hi : 0 ≤ i ∧ i < l) (hj : 0 ≤ j ∧ j < l) {orc : Orc} (ho : Big.look 23 orc = some (history_pairs_1 n)) {K : Int → World → Option α} (hK : ∀ k w', Iv T kb w0 w' base A l c → Rt (K k w') Q) :
    Rt (ixA A l i 2 fun ad1 => opt (w.drew.cell? ad1) fun v2 => tL v2 fun A3 l4 c5 => opt (w.drew.cell? (Addr.add ad1 1)) fun v6 => tL v6 fun A7 l8 c9 => ixA A l j 2 fun ad10 => opt (w.drew.cell? ad10) fun v11 => tL v11 fun A12 l13 c14 => opt (w.drew.cell? (Addr.add ad10 1)) fun v15 => tL v15 fun A16 l17 c18 => tG (.func 23) fun gq21 => opt (Big.look gq21 orc) fun run22 => cl (run22 ((#[] : Array Value).toList ++ [(.agg #[(.slice A3 l4 c5), (.slice A7 l8 c9)]), (.agg #[(.slice A12 l13 c14), (.slice A16 l17 c18)])] ++ (#[] : Array Value).toList) w.drew) fun vs19 w20 => tC vs19 fun v23 cs24 => tI .i64 v23 fun n25 => tN cs24 (K n25 w20)) Q := Rt.cmpK h hi hj ho fun k w' h' _ => hK k w' h'
theorem Rt.swpR (h : Iv T kb w0 w base A l c) (hp : 0 ≤ p ∧ p < l) (hq : 0 ≤ q ∧ q < l) (hr : 0 ≤ r ∧ r < l) (hs : 0 ≤ s ∧ s < l) {K : World → Option α} (hK : ∀ w', Iv T kb w0 w' base A l c → Rt (K w') Q) :
    Rt (ixA A l p 2 fun ad26 => opt (w.drew.cell? ad26) fun v27 => tL v27 fun A28 l29 c30 => opt (w.drew.cell? (Addr.add ad26 1)) fun v31 => tL v31 fun A32 l33 c34 => ixA A l q 2 fun ad35 => opt (w.drew.cell? ad35) fun v36 => tL v36 fun A37 l38 c39 => opt (w.drew.cell? (Addr.add ad35 1)) fun v40 => tL v40 fun A41 l42 c43 => ixA A l r 2 fun ad44 => stC w.drew ad44 (.slice A28 l29 c30) fun w45 => stC w45 (Addr.add ad44 1) (.slice A32 l33 c34) fun w46 => ixA A l s 2 fun ad47 => stC w46 ad47 (.slice A37 l38 c39) fun w48 => stC w48 (Addr.add ad47 1) (.slice A41 l42 c43) K) Q := Rt.swpK h hp hq hr hs fun w' h' _ => hK w' h'
end
end Go.Proofs.Ytdcdgmiojlldaaa.Hi
