/- History: the pairs of a state, sorted. -/
import Derived.Test.YtdcdgmiojlldaaaHE
namespace Go.Proofs.Ytdcdgmiojlldaaa.Hi
open Go Big Go.RowKit Go.IntWalk Go.Maps Go.WideShapes
set_option linter.unusedVariables false
set_option linter.unusedSimpArgs false
section
variable {α : Type} {Q : α → Prop} {n m base mb b N : Nat} {w w' w0 w1 ws : World} {A B C : Option Addr} {l c m1 d1 m2 d2 d k : Nat} {bs cs : List Int} {S T : Nat → Prop} {f : List Int → Option (List Int)} {D : DataW Value} {qs : List KV} {xs ys : List PV} {vs : List Value}
theorem bv_gx {K : IntKind} (h : Bv K w A l c bs) (g : Gx T w w') (hT : ∀ j, On (.slice A l c) j → ¬ T j) : Bv K w' A l c bs :=
  ⟨h.sl.gx g fun a ha => hT a.block (by subst ha; rfl), h.nil, h.cap, h.max, h.rng⟩
theorem bv_uniq (h : Bv .u8 w A l c bs) (h' : Bv .u8 w A l c cs) : bs = cs := by
  have h1 := h.len
  have h2 := h'.len
  rcases h.sl.2 with e | ⟨a, rfl, ha⟩
  · subst e
    exact (List.length_eq_zero_iff.1 (by rw [h2, ← h1]; rfl)).symm
  · rcases h'.sl.2 with e | ⟨a', ea, ha'⟩
    · subst e
      exact List.length_eq_zero_iff.1 (by rw [h1, ← h2]; rfl)
    · injection ea with ea
      subst ea
      refine List.ext_getElem (by rw [h1, h2]) fun i hi hi' => ?_
      have e := (ha i (by omega)).symm.trans (ha' i (by omega))
      injection e with e
      injection e with _ e
      rwa [List.getD_eq_getElem?_getD, List.getD_eq_getElem?_getD, List.getElem?_eq_getElem hi, List.getElem?_eq_getElem hi'] at e
open Classical in
/-- What a row of bytes holds. -/
noncomputable def rdK (w : World) (A : Option Addr) (l c : Nat) : List Int := if h : ∃ bs, Bv .u8 w A l c bs then h.choose else []
theorem rdK_eq (h : Bv .u8 w A l c bs) : rdK w A l c = bs := by
  unfold rdK
  rw [dif_pos ⟨bs, h⟩]
  exact bv_uniq (Exists.choose_spec ⟨bs, h⟩) h
theorem flat_inj : ∀ {xs ys : List PV}, flat xs = flat ys → xs = ys
  | [], [], _ => rfl
  | [], y :: ys, h => by cases h
  | x :: xs, [], h => by cases h
  | x :: xs, y :: ys, h => by
    have h : x.k :: x.v :: flat xs = y.k :: y.v :: flat ys := h
    injection h with h1 h2
    injection h2 with h2 h3
    rw [PV.ext' h1 h2, flat_inj h3]
theorem rows_pr : ∀ {qs : List KV} {vs : List Value}, Big.Rows prEl w vs qs → ∃ xs : List PV, vs = flat xs ∧ xs.length = qs.length ∧ ∀ (i : Nat) (x : PV) (q : KV), xs[i]? = some x → qs[i]? = some q → Bv .u8 w x.kA x.kl x.kc q.1 ∧ Bv .u8 w x.vA x.vl x.vc q.2
  | [], vs, h => ⟨[], h, rfl, fun i x q hx => by cases hx⟩
  | q :: qs, vs, h => by
    obtain ⟨a, b, rfl, _, ⟨A, l, c, B, m, d, rfl, h1, h2⟩, h3⟩ := h
    obtain ⟨xs, rfl, e2, e3⟩ := rows_pr h3
    refine ⟨⟨A, l, c, B, m, d⟩ :: xs, rfl, by simp [e2], fun i x q' hx hq => ?_⟩
    cases i with
    | zero =>
      obtain rfl := Option.some.inj hx
      obtain rfl := Option.some.inj hq
      exact ⟨h1, h2⟩
    | succ i => exact e3 i x q' hx hq
theorem pr_rows (g : PV → KV) : ∀ {ys : List PV}, (∀ y ∈ ys, Bv .u8 w y.kA y.kl y.kc (g y).1 ∧ Bv .u8 w y.vA y.vl y.vc (g y).2) → Big.Rows prEl w (flat ys) (ys.map g)
  | [], _ => rfl
  | y :: ys, h => ⟨y.vs, flat ys, rfl, rfl, ⟨_, _, _, _, _, _, rfl, (h y List.mem_cons_self).1, (h y List.mem_cons_self).2⟩, pr_rows g fun z hz => h z (List.mem_cons_of_mem _ hz)⟩
/-- A row of pairs, as slices. -/
theorem OwnE.pv (h : OwnE prEl 33 w base (.slice A l c) qs) : ∃ xs, Row2 w base A l c xs ∧ xs.length = qs.length ∧ ∀ (i : Nat) (x : PV) (q : KV), xs[i]? = some x → qs[i]? = some q → Stb (On (.slice A l c)) (fun w => Bv .u8 w x.kA x.kl x.kc q.1) w ∧ Stb (On (.slice A l c)) (fun w => Bv .u8 w x.vA x.vl x.vc q.2) w := by
  have hl := h.sl.1
  obtain ⟨vs, h1, h2⟩ := h
  obtain ⟨xs, e1, e2, e3⟩ := rows_pr h2.out
  subst e1
  rw [← hl] at h1
  refine ⟨xs, ⟨by omega, h1⟩, e2, fun i x q hx hq => ⟨fun w' g' => ?_, fun w' g' => ?_⟩⟩
  · obtain ⟨xs', f1, f2, f3⟩ := rows_pr (h2 w' g')
    obtain rfl := flat_inj f1
    exact (f3 i x q hx hq).1
  · obtain ⟨xs', f1, f2, f3⟩ := rows_pr (h2 w' g')
    obtain rfl := flat_inj f1
    exact (f3 i x q hx hq).2
theorem pairs_l0 {r : Nat} (hvl : ∀ k v, f k = some v → v.length ≤ 2 ^ 20) (hk0 : Kp ws w0) (hb : b < w0.heap.size) (hr : w0.heap.size ≤ r) : ∀ (m cnt : Nat) (qs : List KV) (A : Option Addr) (c : Nat) (w : World), cnt < m → qs.length + cnt ≤ 2 ^ 19 → Kp w0 w → Rg ws w b r f qs cnt → OwnX (fun j => j = r) prEl 33 w w0.heap.size (.slice A qs.length c) qs → ¬ On (.slice A qs.length c) r →
    Rt (history_pairs.l0 n m A qs.length c ⟨r, 0, none⟩ w) fun y => ∃ A c w' qs', y = ⟨.exit 0, [.slice A qs'.length c], w'⟩ ∧ Kp w0 w' ∧ OwnE prEl 33 w' w0.heap.size (.slice A qs'.length c) qs' ∧ (qs'.map Prod.fst).Nodup ∧ qs'.length ≤ 2 ^ 19 ∧ (∀ q ∈ qs', Bytes q.1 ∧ f q.1 = some q.2) ∧ ∀ k, Bytes k → (f k).isSome = true → k ∈ qs'.map Prod.fst := by
  obtain ⟨t, z, hT⟩ := slP
  intro m
  induction m with
  | zero => intro cnt qs A c w h; omega
  | succ m ih =>
    intro cnt qs A c w hm hq hk hR ho hoff
    rw [history_pairs.l0_succ]
    have hrl := hR.lt
    refine Rt.nextM hR (fun hall => ?_) fun w1 cnt1 A1 l1 c1 s v hs hv hc hR1 g1 => ?_
    · exact Rt.some' ⟨A, c, w, qs, rfl, hk, ho.ownE, hR.nd, by omega, hR.mem, hall⟩
    have hz1 := g1.size
    have hrw : w0.heap.size ≤ w.heap.size := hk.size
    have ho1 := ho.gx g1 (fun j _ hj => hj) fun j hj => by have hj : j = r := hj; rw [hj]; exact hoff
    have hk1 := hk.tx g1 fun j hj => by have hj : j = r := hj; omega
    have hvlen := hv.len
    have hvb := hvl _ _ (hR1.mem _ (List.mem_append_right _ (List.mem_singleton.2 rfl))).2
    dsimp only at hvb
    refine Rt.tS (Rt.tL (Rt.toB hs fun c2 w2 hb2 k2 hz2 => Rt.tL ?_))
    have hk2 := hk1.tr k2
    refine Rt.cO (Clone_spec (n := n) (hv.kp (hk0.tr hk2)) (by omega)) fun C3 d3 w3 o3 k3 => ?_
    have hz3 := k3.size
    refine Rt.al fun w4 l4 k4 s4 => ?_
    have k14 := (k2.tr k3).tr k4
    have hz4 := k4.size
    have ho4 := ho1.kp k14
    have holt := ho1.lt
    have o3lt := o3.lt
    have hb4 := (hb2.kp k3).kp k4
    have o4 := o3.kp k4
    have hoff1 : ∀ j, On (.slice A qs.length c) j → j < w1.heap.size := fun j hj => (holt j hj).2
    refine Rt.app1G (E := prEl) (x := (unb s.data.toList, v)) (us := [.slice (some ⟨w1.heap.size, 0, none⟩) s.size c2, .slice C3 v.length d3]) rfl hT ho4 l4 rfl (fun w5 g5 => ⟨_, _, _, _, _, _, rfl, bv_gx hb4 g5 fun j hj e => ?_, (o4.gx g5 fun j hj e => ?_).bv hv.rng⟩) (by omega) (by omega) fun A5 c5 w5 o5 g5 on5 => Rt.tL ?_
    · have hj : w1.heap.size = j := Option.some.inj hj
      rcases e with e | e
      · have e : j = r := e; omega
      · have := hoff1 j e; omega
    · have := (o3lt j hj).1
      rcases e with e | e
      · have e : j = r := e; omega
      · have := hoff1 j e; omega
    have e5 : (qs ++ [(unb s.data.toList, v)]).length = qs.length + 1 := by rw [List.length_append]; rfl
    rw [← e5] at o5 on5 ⊢
    have hk5 := (hk1.tr k14).tx g5 fun j hj => (holt j hj).1
    refine ih cnt1 _ A5 c5 w5 (by omega) (by omega) hk5 ((hR1.kp k14).gx g5 (fun e => by have := (holt b e).1; omega) fun e => hoff e) o5 fun e => ?_
    rcases on5 r e with e | e
    · exact hoff e
    · omega
end
end Go.Proofs.Ytdcdgmiojlldaaa.Hi
