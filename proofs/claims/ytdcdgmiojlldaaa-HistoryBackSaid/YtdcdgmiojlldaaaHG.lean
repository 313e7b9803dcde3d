/- History: pairs tells the state's pairs, rising. -/
import Derived.Test.YtdcdgmiojlldaaaHF
namespace Go.Proofs.Ytdcdgmiojlldaaa.Hi
open Go Big Go.RowKit Go.IntWalk Go.Maps Go.WideShapes
set_option linter.unusedVariables false
set_option linter.unusedSimpArgs false
def Lt (a b : List Int) : Prop := Op.bytesLess (bts a) (bts b) = true
/-- The pairs of a state, rising. -/
structure Told (f : List Int → Option (List Int)) (qs : List KV) : Prop where
  up : qs.Pairwise fun a b => Lt a.1 b.1
  mem : ∀ q ∈ qs, Bytes q.1 ∧ f q.1 = some q.2
  all : ∀ k, Bytes k → (f k).isSome = true → k ∈ qs.map Prod.fst
section
variable {α : Type} {Q : α → Prop} {n m base mb b N : Nat} {w w' w0 w1 ws : World} {A B C : Option Addr} {l c m1 d1 m2 d2 d k : Nat} {bs cs : List Int} {S T : Nat → Prop} {f : List Int → Option (List Int)} {D : DataW Value} {qs : List KV} {xs ys : List PV} {vs : List Value}
theorem Row2.ownKV (h : Row2 w base A l c ys) (g : PV → KV) (hg : ∀ y ∈ ys, Stb (On (.slice A l c)) (fun w => Bv .u8 w y.kA y.kl y.kc (g y).1) w ∧ Stb (On (.slice A l c)) (fun w => Bv .u8 w y.vA y.vl y.vc (g y).2) w) : OwnE prEl 33 w base (.slice A l c) (ys.map g) := by
  obtain ⟨rfl, h⟩ := h
  refine ⟨flat ys, by rw [List.length_map]; exact h, fun w' g' => pr_rows g fun y hy => ⟨(hg y hy).1 w' g', (hg y hy).2 w' g'⟩⟩
/-- SortFunc on a row of pairs with keys apart. -/
theorem SortKV (hn : 2 ^ 60 < n) (h : OwnE prEl 33 w base (.slice A l c) qs) (hl : l ≤ 511) (hnd : (qs.map Prod.fst).Nodup) (hB : ∀ q ∈ qs, Bytes q.1) :
    Rt (api_Pair_22 n [.slice A l c, cmpV] w) fun y => ∃ w' qs', y = ([], w') ∧ OwnE prEl 33 w' base (.slice A l c) qs' ∧ qs'.Perm qs ∧ (qs'.Pairwise fun a b => Lt a.1 b.1) ∧ Gx (On (.slice A l c)) w w' := by
  obtain ⟨xs, hr, hxl, hst⟩ := OwnE.pv h
  have hxq : ∀ (i : Nat) (x : PV), xs[i]? = some x → ∃ q, qs[i]? = some q ∧ rdK w x.kA x.kl x.kc = q.1 ∧ rdK w x.vA x.vl x.vc = q.2 ∧ Stb (On (.slice A l c)) (fun w => Bv .u8 w x.kA x.kl x.kc q.1) w ∧ Stb (On (.slice A l c)) (fun w => Bv .u8 w x.vA x.vl x.vc q.2) w := fun i x hx => by
    have hi := (List.getElem?_eq_some_iff.1 hx).1
    have hq : qs[i]? = some (qs[i]'(by omega)) := List.getElem?_eq_getElem _
    obtain ⟨a, b⟩ := hst i x _ hx hq
    exact ⟨_, hq, rdK_eq a.out, rdK_eq b.out, a, b⟩
  have hmap : xs.map (fun x => (rdK w x.kA x.kl x.kc, rdK w x.vA x.vl x.vc)) = qs := by
    refine List.ext_getElem? fun i => ?_
    rw [List.getElem?_map]
    cases hx : xs[i]? with
    | none =>
      rw [List.getElem?_eq_none_iff] at hx
      rw [List.getElem?_eq_none (by omega)]; rfl
    | some x =>
      obtain ⟨q, e1, e2, e3, _⟩ := hxq i x hx
      rw [e1]
      show some (rdK w x.kA x.kl x.kc, rdK w x.vA x.vl x.vc) = _
      rw [e2, e3]
  have hmem : ∀ x ∈ xs, Stb (On (.slice A l c)) (fun w' => Bv .u8 w' x.kA x.kl x.kc (rdK w x.kA x.kl x.kc)) w ∧ Stb (On (.slice A l c)) (fun w' => Bv .u8 w' x.vA x.vl x.vc (rdK w x.vA x.vl x.vc)) w := fun x hx => by
    obtain ⟨i, hi⟩ := List.getElem?_of_mem hx
    obtain ⟨q, _, e2, e3, a, b⟩ := hxq i x hi
    rw [e2, e3]
    exact ⟨a, b⟩
  obtain ⟨_, e, w', ys, rfl, hy, hp, hs, g1⟩ := Sort_spec (n := n) (kb := fun x => rdK w x.kA x.kl x.kc) hn hr hl fun x hx => (hmem x hx).1.less fun k hk hj => hj.elim id fun e => by omega
  refine ⟨_, e, w', ys.map (fun x => (rdK w x.kA x.kl x.kc, rdK w x.vA x.vl x.vc)), rfl, hy.ownKV _ fun y hyy => ?_, ?_, ?_, g1⟩
  · obtain ⟨a, b⟩ := hmem y (hp.subset hyy)
    exact ⟨a.on g1, b.on g1⟩
  · have := hp.map fun x : PV => ((rdK w x.kA x.kl x.kc, rdK w x.vA x.vl x.vc) : KV)
    rwa [hmap] at this
  · have hp' := hp.map fun x : PV => ((rdK w x.kA x.kl x.kc, rdK w x.vA x.vl x.vc) : KV)
    rw [hmap] at hp'
    have hnd' : ((ys.map fun x : PV => ((rdK w x.kA x.kl x.kc, rdK w x.vA x.vl x.vc) : KV)).map Prod.fst).Nodup := (hp'.map Prod.fst).nodup_iff.2 hnd
    have hne : (ys.map fun x : PV => ((rdK w x.kA x.kl x.kc, rdK w x.vA x.vl x.vc) : KV)).Pairwise fun a b => a.1 ≠ b.1 := List.pairwise_map.1 hnd'
    have hss : (ys.map fun x : PV => ((rdK w x.kA x.kl x.kc, rdK w x.vA x.vl x.vc) : KV)).Pairwise fun a b => Op.bytesLess (bts b.1) (bts a.1) = false := List.pairwise_map.2 hs
    refine (hne.and hss).imp_of_mem fun {a b} ha hb ⟨h1, h2⟩ => ?_
    unfold Lt
    cases h3 : Op.bytesLess (bts a.1) (bts b.1) with
    | true => rfl
    | false => exact absurd (bts_inj (hB a (hp'.subset ha)) (hB b (hp'.subset hb)) (bl_tri h3 h2)) h1
theorem pairs_spec (hn : 2 ^ 60 < n) (hvl : ∀ k v, f k = some v → v.length ≤ 2 ^ 20) (hM : Mk ws w b N f) (hk : Kp ws w) (hN : N ≤ 2 ^ 19) (hcard : ∀ qs : List KV, (qs.map Prod.fst).Nodup → (∀ q ∈ qs, Bytes q.1 ∧ f q.1 = some q.2) → qs.length ≤ 511) :
    Rt (history_pairs n [.map (some b)] w) fun y => ∃ A c w' qs, y = ([.slice A qs.length c], w') ∧ Kp w w' ∧ OwnE prEl 33 w' w.heap.size (.slice A qs.length c) qs ∧ Told f qs := by
  rw [history_pairs_eq]
  have hbl := hM.lt
  refine Rt.fin (Rt.rangeM hM fun cnt w1 hR hc k1 s1 => Rt.tD ?_)
  have hbl := hM.lt
  have e0 : ([] : List KV).length = 0 := rfl
  have hl0 := pairs_l0 (n := n) (w0 := w) (r := w.heap.size) hvl hk hbl (Nat.le_refl _) n cnt [] none 0 w1 (by omega) (by rw [e0]; omega) k1 hR (OwnX.nil _ _ _) fun h => (nomatch h)
  refine Rt.jb (Rt.mono hl0 ?_)
  rintro _ ⟨A, c, w2, qs, rfl, k2, o2, hnd, hlen, hmem, hall⟩
  refine .inl ⟨.inr rfl, ?_⟩
  dsimp only
  (repeat (first | (with_reducible (first | refine Rt.fin ?_ | refine Rt.tL ?_ | refine Rt.tI ?_ | refine Rt.tB ?_ | refine Rt.tS ?_ | refine Rt.tP ?_ | refine Rt.tD ?_ | refine Rt.tM ?_ | refine Rt.tC ?_ | refine Rt.tN ?_ | refine Rt.tA ?_ | refine Rt.tG ?_ | refine Rt.tF ?_ | refine Rt.os ?_ | refine Rt.clS ?_ | refine Rt.jmN ?_ | refine Rt.jbN ?_ | refine Rt.jbE ?_)) | ((with_reducible (first | apply Rt.ld0 | apply Rt.ld1 | apply Rt.ld2 | apply Rt.ld3 | apply Rt.ld4 | apply Rt.ld5)); first | assumption | exact Lc.kp (by assumption) (by assumption)) | ((with_reducible apply Rt.ol); first | assumption | exact cell_kp (by assumption) (by assumption)) | ((with_reducible apply Rt.ckR); focus ((repeat (first | (with_reducible (first | refine Rt.fin ?_ | refine Rt.tL ?_ | refine Rt.tI ?_ | refine Rt.tB ?_ | refine Rt.tS ?_ | refine Rt.tP ?_ | refine Rt.tD ?_ | refine Rt.tM ?_ | refine Rt.tC ?_ | refine Rt.tN ?_ | refine Rt.tA ?_ | refine Rt.tG ?_ | refine Rt.tF ?_ | refine Rt.os ?_ | refine Rt.clS ?_ | refine Rt.jmN ?_ | refine Rt.jbN ?_ | refine Rt.jbE ?_)) | ((with_reducible (first | apply Rt.ld0 | apply Rt.ld1 | apply Rt.ld2 | apply Rt.ld3 | apply Rt.ld4 | apply Rt.ld5)); first | assumption | exact Lc.kp (by assumption) (by assumption)) | ((with_reducible apply Rt.ol); first | assumption | exact cell_kp (by assumption) (by assumption)))); exact Rt.some' rfl))))
  have hcl := hcard qs hnd hmem
  obtain ⟨_, e, w3, qs3, rfl, o3, hp, hs, g3⟩ := SortKV (n := n) hn o2 hcl hnd fun q hq => (hmem q hq).1
  refine Rt.cl e (Rt.tN ?_)
  have hlq : qs3.length = qs.length := hp.length_eq
  have o2lt := o2.lt
  refine Rt.some' ⟨rfl, A, c, w3, qs3, by rw [hlq], k2.tx g3 fun j hj => (o2lt j hj).1, by rw [hlq]; exact o3, hs, fun q hq => hmem q (hp.subset hq), fun k hkb hks => ?_⟩
  exact (hp.map Prod.fst).symm.subset (hall k hkb hks)
end
end Go.Proofs.Ytdcdgmiojlldaaa.Hi
