/- A sorted buffer: a new one; its levels; the example of the document. -/
import Derived.Test.YtoilmnplocfipaaS8
namespace Go.Proofs.Ytoilmnplocfipaa.Sk
open Go Big Go.RowKit Go.IntWalk Ik
set_option linter.unusedVariables false
set_option linter.unusedSimpArgs false
def st0 : St := ⟨List.replicate 12 none, [], 0⟩
theorem inv0 : Inv st0 [] := by
  refine ⟨by simp [st0], rfl, fun i h => (by cases h), List.Pairwise.nil, fun x h => (by cases h), fun j hj => ?_⟩
  show (List.replicate 12 (none : Option Nat))[j]? = some none
  rw [List.getElem?_replicate, if_pos hj]
section
variable {α : Type} {Q : α → Prop} {n base b : Nat} {w w' w0 : World} {S T R : Nat → Prop} {s : St} {A B : Option Addr} {c l m d a1 a2 : Nat} {nv : List Nw} {ord : List Nat} {k : Key} {ks : List (En × Nat)} {x : En} {xs : List En} {o : Option En} {s0 k0 : Int} {v : Value}
theorem en_stb2 {s k : Int} (o1 : Own .u8 5 w a1 (.slice A l c) x.key) (o2 : Own .u8 5 w a2 (.slice B m d) x.val) (r1 : ∀ z ∈ x.key, (Lit.int .u8 z).wf = true) (r2 : ∀ z ∈ x.val, (Lit.int .u8 z).wf = true) (hs : s = x.seq) (hk : k = x.kind) (rs : (Lit.int .u64 x.seq).wf = true) (rk : (Lit.int .i64 x.kind).wf = true)
    (h : ∀ j, On v j → j < a1 ∧ j < a2) : Stb (On v) (fun w => enEl.rd w [.slice A l c, .int .u64 s, .int .i64 k, .slice B m d] x) w :=
  fun w' hg => ⟨_, _, _, _, _, _, _, _, rfl, (o1.gx hg fun j hj hv => by have := (o1.lt j hj).1; have := h j hv; omega).bv r1, hs, hk, rs, rk, (o2.gx hg fun j hj hv => by have := (o2.lt j hj).1; have := h j hv; omega).bv r2⟩
theorem New_l0 {base : Nat} : ∀ (f i m : Nat) (w' : World) (L : List Value), i + f = 12 → f < m → Kp w w' → w.heap.size ≤ b → Lc w' b L → L.length = 14 → L = List.replicate i (.int .i64 (-1)) ++ List.replicate (12 - i) (.int .i64 0) ++ [.slice none 0 0, .int .i64 0] →
    Rt (skip_New.l0 n m ⟨b, 0, none⟩ (i : Int) w') fun r => r.ex = .exit 0 ∧ r.vals = [pt b] ∧ Kp w r.w ∧ Lc r.w b (List.replicate 12 (.int .i64 (-1)) ++ [.slice none 0 0, .int .i64 0]) := by
  intro f
  induction f with
  | zero =>
    intro i m w' L hi hm hk hb hl hL he
    obtain ⟨m, rfl⟩ : ∃ m', m = m' + 1 := ⟨m - 1, by omega⟩
    obtain rfl : i = 12 := by omega
    rw [skip_New.l0_succ]
    exact Rt.cDF (by omega) (Rt.some' ⟨rfl, rfl, hk, by rw [he] at hl; simpa using hl⟩)
  | succ f ih =>
    intro i m w' L hi hm hk hb hl hL he
    obtain ⟨m, rfl⟩ : ∃ m', m = m' + 1 := ⟨m - 1, by omega⟩
    rw [skip_New.l0_succ]
    refine Rt.cDT (by omega) (Rt.ixRb (by omega) (by omega) ?_)
    rw [Int.toNat_natCast]
    refine Rt.stb hl (by omega) fun w1 l1 g1 => ?_
    rw [i64_in _ (by omega), show ((i : Int) + 1) = ((i + 1 : Nat) : Int) by omega]
    refine ih (i + 1) m w1 _ (by omega) (by omega) (hk.tx g1 fun j hj => by omega) hb l1 (by rw [List.length_set]; exact hL) ?_
    rw [he, List.append_assoc, List.set_append_right _ _ (by simp), List.length_replicate, Nat.sub_self, show 12 - i = (12 - (i + 1)) + 1 by omega, List.replicate_succ, List.cons_append, List.set_cons_zero, List.replicate_succ' (n := i)]
    simp
theorem New_spec (hb : base ≤ w.heap.size) (hn : 100 < n) : Rt (skip_New n [] w) fun r => ∃ w' b S, r = ([pt b], w') ∧ Kp w w' ∧ SkA w' base b S [] ∧ ∀ j, S j → w.heap.size ≤ j := by
  rw [skip_New_eq]
  refine Rt.fin (Rt.al fun w1 l1 k1 s1 => ?_)
  refine Rt.jb (Rt.mono (New_l0 (n := n) (b := w.heap.size) (base := base) 12 0 n w1 _ (by omega) (by omega) k1 (Nat.le_refl _) l1 rfl rfl) ?_)
  rintro ⟨ex, vs, w2⟩ ⟨h1, h2, k2, l2⟩
  dsimp only at h1 h2 k2 l2
  subst h1 h2
  refine .inl ⟨.inr rfl, ?_⟩
  (repeat (first | (with_reducible (first | refine Rt.fin ?_ | refine Rt.tL ?_ | refine Rt.tI ?_ | refine Rt.tB ?_ | refine Rt.tS ?_ | refine Rt.tP ?_ | refine Rt.tD ?_ | refine Rt.tM ?_ | refine Rt.tC ?_ | refine Rt.tN ?_ | refine Rt.tA ?_ | refine Rt.tG ?_ | refine Rt.tF ?_ | refine Rt.os ?_ | refine Rt.clS ?_ | refine Rt.jmN ?_ | refine Rt.jbN ?_ | refine Rt.jbE ?_)) | ((with_reducible (first | apply Rt.ld0 | apply Rt.ld1 | apply Rt.ld2 | apply Rt.ld3 | apply Rt.ld4 | apply Rt.ld5)); first | assumption | exact Lc.kp (by assumption) (by assumption)) | ((with_reducible apply Rt.ol); first | assumption | exact cell_kp (by assumption) (by assumption)) | ((with_reducible apply Rt.ckR); focus ((repeat (first | (with_reducible (first | refine Rt.fin ?_ | refine Rt.tL ?_ | refine Rt.tI ?_ | refine Rt.tB ?_ | refine Rt.tS ?_ | refine Rt.tP ?_ | refine Rt.tD ?_ | refine Rt.tM ?_ | refine Rt.tC ?_ | refine Rt.tN ?_ | refine Rt.tA ?_ | refine Rt.tG ?_ | refine Rt.tF ?_ | refine Rt.os ?_ | refine Rt.clS ?_ | refine Rt.jmN ?_ | refine Rt.jbN ?_ | refine Rt.jbE ?_)) | ((with_reducible (first | apply Rt.ld0 | apply Rt.ld1 | apply Rt.ld2 | apply Rt.ld3 | apply Rt.ld4 | apply Rt.ld5)); first | assumption | exact Lc.kp (by assumption) (by assumption)) | ((with_reducible apply Rt.ol); first | assumption | exact cell_kp (by assumption) (by assumption)))); exact Rt.some' rfl))))
  refine Rt.some' ⟨rfl, w2, w.heap.size, fun j => j = w.heap.size, rfl, k2, ⟨⟨st0, [], ⟨fun _ => False, none, 0, [], ?_, fun j => ?_⟩, inv0, rfl, rfl⟩, fun y h => (by cases h)⟩, fun j hj => (by omega)⟩
  · refine ⟨hb, by simp [st0], ?_, OwnE.nil _ _, (fun h => by cases h), rfl, fun i x v hx => (by cases hx), fun i j v v' hv => (by cases hv), fun j h => h.elim, fun h => h, fun j h => h.elim⟩
    have : blk st0 none 0 0 = List.replicate 12 (.int .i64 (-1)) ++ [.slice none 0 0, .int .i64 0] := by simp [blk, st0, en]
    show Lc w2 w.heap.size (blk st0 none 0 0)
    rw [this]; exact l2
  · constructor
    · exact .inl
    · rintro (h | h | ⟨i, v, hv, _⟩ | h)
      · exact h
      · cases h
      · cases hv
      · exact h.elim
theorem Level_l0 (hS : Sk w0 base b S s) (hi : Inv s ord) {i : Nat} (hi12 : i < 12) (hL : ∀ q ∈ ord, ∃ y, s.nodes[q]? = some y ∧ y.e.key.length ≤ 256 ∧ y.e.val.length ≤ 4096) (hlen : s.nodes.length ≤ 2 ^ 30) : ∀ (f m : Nat) (p t : List Nat) (D : Option Addr) (c8 : Nat) (w' : World), chain s ord i = p ++ t → t.length = f → f < m → Kp w0 w' →
    OwnE enEl 34 w' w0.heap.size (.slice D (p.map fun q => (prA s q).1).length c8) (p.map fun q => (prA s q).1) →
    Rt (skip_List_Level.l0 n m (some ⟨b, 0, none⟩) (i : Int) D (p.map fun q => (prA s q).1).length c8 (en (hd t)) w') fun r => r.ex = .exit 0 ∧ ∃ D c8, r.vals = [.slice D ((chain s ord i).map fun q => (prA s q).1).length c8] ∧ Ev enEl r.w D ((chain s ord i).map fun q => (prA s q).1).length c8 ((chain s ord i).map fun q => (prA s q).1) ∧ Kp w0 r.w := by
  obtain ⟨tE, zE, hTE⟩ := slE
  intro f
  induction f with
  | zero =>
    intro m p t D c8 w' hc hf hm hk ho
    obtain ⟨m, rfl⟩ : ∃ m', m = m' + 1 := ⟨m - 1, by omega⟩
    obtain rfl : t = [] := List.length_eq_zero_iff.1 hf
    rw [List.append_nil] at hc
    rw [skip_List_Level.l0_succ, hc]
    exact Rt.cN (fun _ => Rt.some' ⟨rfl, D, c8, rfl, ho.ev, hk⟩) fun h => absurd rfl h
  | succ f ih =>
    intro m p t D c8 w' hc hf hm hk ho
    obtain ⟨m, rfl⟩ : ∃ m', m = m' + 1 := ⟨m - 1, by omega⟩
    cases t with
    | nil => simp at hf
    | cons q r =>
      have hqc : q ∈ chain s ord i := by rw [hc]; simp
      have hqo : q ∈ ord := List.filter_sublist.subset hqc
      obtain ⟨y, hy, hl1, hl2⟩ := hL q hqo
      obtain ⟨_, hy', hiy⟩ := chain_mem hi hqc
      rw [hy] at hy'
      injection hy' with hy'
      subst hy'
      have hpr : (prA s q).1 = y.e := by unfold prA; rw [hy]
      have hlk := hi.lnk i hi12
      rw [hc] at hlk
      have hnx := (hlk.app).hd
      rw [skip_List_Level.l0_succ]
      have hcl := chain_len (j := i) hi
      rw [hc, List.length_append, List.length_cons] at hcl
      obtain ⟨R, A, c, nv, hV, hSS⟩ := hS.kp hk
      refine Rt.cN (fun h => ?_) fun _ => ?_
      · simp [hd, en] at h
      refine Rt.os (Rt.ldn hV.lc (blk_12 s _ _ _ hV.fst) (Rt.tL (Rt.ixNd hV hy fun a v hv hdk c0 c1 c2 c3 c4 => ?_)))
      have he := hdk.ent.out
      have hkl := he.key.len
      have hvl := he.val.len
      (repeat (first | (with_reducible (first | refine Rt.fin ?_ | refine Rt.tL ?_ | refine Rt.tI ?_ | refine Rt.tB ?_ | refine Rt.tS ?_ | refine Rt.tP ?_ | refine Rt.tD ?_ | refine Rt.tM ?_ | refine Rt.tC ?_ | refine Rt.tN ?_ | refine Rt.tA ?_ | refine Rt.tG ?_ | refine Rt.tF ?_ | refine Rt.os ?_ | refine Rt.clS ?_ | refine Rt.jmN ?_ | refine Rt.jbN ?_ | refine Rt.jbE ?_)) | ((with_reducible (first | apply Rt.ld0 | apply Rt.ld1 | apply Rt.ld2 | apply Rt.ld3 | apply Rt.ld4 | apply Rt.ld5)); first | assumption | exact Lc.kp (by assumption) (by assumption)) | ((with_reducible apply Rt.ol); first | assumption | exact cell_kp (by assumption) (by assumption)) | ((with_reducible apply Rt.ckR); focus ((repeat (first | (with_reducible (first | refine Rt.fin ?_ | refine Rt.tL ?_ | refine Rt.tI ?_ | refine Rt.tB ?_ | refine Rt.tS ?_ | refine Rt.tP ?_ | refine Rt.tD ?_ | refine Rt.tM ?_ | refine Rt.tC ?_ | refine Rt.tN ?_ | refine Rt.tA ?_ | refine Rt.tG ?_ | refine Rt.tF ?_ | refine Rt.os ?_ | refine Rt.clS ?_ | refine Rt.jmN ?_ | refine Rt.jbN ?_ | refine Rt.jbE ?_)) | ((with_reducible (first | apply Rt.ld0 | apply Rt.ld1 | apply Rt.ld2 | apply Rt.ld3 | apply Rt.ld4 | apply Rt.ld5)); first | assumption | exact Lc.kp (by assumption) (by assumption)) | ((with_reducible apply Rt.ol); first | assumption | exact cell_kp (by assumption) (by assumption)))); exact Rt.some' rfl))))
      refine Rt.cEn (own_spec he (by omega) (by omega)) fun A3 c3 B3 d3 w3 o3 p3 k3 => ?_
      (repeat (first | (with_reducible (first | refine Rt.fin ?_ | refine Rt.tL ?_ | refine Rt.tI ?_ | refine Rt.tB ?_ | refine Rt.tS ?_ | refine Rt.tP ?_ | refine Rt.tD ?_ | refine Rt.tM ?_ | refine Rt.tC ?_ | refine Rt.tN ?_ | refine Rt.tA ?_ | refine Rt.tG ?_ | refine Rt.tF ?_ | refine Rt.os ?_ | refine Rt.clS ?_ | refine Rt.jmN ?_ | refine Rt.jbN ?_ | refine Rt.jbE ?_)) | ((with_reducible (first | apply Rt.ld0 | apply Rt.ld1 | apply Rt.ld2 | apply Rt.ld3 | apply Rt.ld4 | apply Rt.ld5)); first | assumption | exact Lc.kp (by assumption) (by assumption)) | ((with_reducible apply Rt.ol); first | assumption | exact cell_kp (by assumption) (by assumption)) | ((with_reducible apply Rt.ckR); focus ((repeat (first | (with_reducible (first | refine Rt.fin ?_ | refine Rt.tL ?_ | refine Rt.tI ?_ | refine Rt.tB ?_ | refine Rt.tS ?_ | refine Rt.tP ?_ | refine Rt.tD ?_ | refine Rt.tM ?_ | refine Rt.tC ?_ | refine Rt.tN ?_ | refine Rt.tA ?_ | refine Rt.tG ?_ | refine Rt.tF ?_ | refine Rt.os ?_ | refine Rt.clS ?_ | refine Rt.jmN ?_ | refine Rt.jbN ?_ | refine Rt.jbE ?_)) | ((with_reducible (first | apply Rt.ld0 | apply Rt.ld1 | apply Rt.ld2 | apply Rt.ld3 | apply Rt.ld4 | apply Rt.ld5)); first | assumption | exact Lc.kp (by assumption) (by assumption)) | ((with_reducible apply Rt.ol); first | assumption | exact cell_kp (by assumption) (by assumption)))); exact Rt.some' rfl))))
      have ho3 := ho.kp k3
      refine Rt.app1f rfl hTE ho3 rfl (en_stb2 (x := y.e) o3 p3 he.key.rng he.val.rng rfl rfl he.rs he.rk fun j hj => by have := (ho.lt j hj).2; omega) (by rw [List.length_map]; omega) (by have := hk.size; have := k3.size; omega) fun A7 c9 w7 o7 g7 f7 s7 => ?_
      (repeat (first | (with_reducible (first | refine Rt.fin ?_ | refine Rt.tL ?_ | refine Rt.tI ?_ | refine Rt.tB ?_ | refine Rt.tS ?_ | refine Rt.tP ?_ | refine Rt.tD ?_ | refine Rt.tM ?_ | refine Rt.tC ?_ | refine Rt.tN ?_ | refine Rt.tA ?_ | refine Rt.tG ?_ | refine Rt.tF ?_ | refine Rt.os ?_ | refine Rt.clS ?_ | refine Rt.jmN ?_ | refine Rt.jbN ?_ | refine Rt.jbE ?_)) | ((with_reducible (first | apply Rt.ld0 | apply Rt.ld1 | apply Rt.ld2 | apply Rt.ld3 | apply Rt.ld4 | apply Rt.ld5)); first | assumption | exact Lc.kp (by assumption) (by assumption)) | ((with_reducible apply Rt.ol); first | assumption | exact cell_kp (by assumption) (by assumption)) | ((with_reducible apply Rt.ckR); focus ((repeat (first | (with_reducible (first | refine Rt.fin ?_ | refine Rt.tL ?_ | refine Rt.tI ?_ | refine Rt.tB ?_ | refine Rt.tS ?_ | refine Rt.tP ?_ | refine Rt.tD ?_ | refine Rt.tM ?_ | refine Rt.tC ?_ | refine Rt.tN ?_ | refine Rt.tA ?_ | refine Rt.tG ?_ | refine Rt.tF ?_ | refine Rt.os ?_ | refine Rt.clS ?_ | refine Rt.jmN ?_ | refine Rt.jbN ?_ | refine Rt.jbE ?_)) | ((with_reducible (first | apply Rt.ld0 | apply Rt.ld1 | apply Rt.ld2 | apply Rt.ld3 | apply Rt.ld4 | apply Rt.ld5)); first | assumption | exact Lc.kp (by assumption) (by assumption)) | ((with_reducible apply Rt.ol); first | assumption | exact cell_kp (by assumption) (by assumption)))); exact Rt.some' rfl))))
      have hk7 : Kp w0 w7 := (hk.tr k3).tx g7 fun j hj => (ho3.lt j hj).1
      obtain ⟨R7, A8, c8', nv7, hV7, _⟩ := hS.kp hk7
      refine Rt.os (Rt.ldn hV7.lc (blk_12 s _ _ _ hV7.fst) (Rt.tL (Rt.ixNd hV7 hy fun a v' hv' hd' e0 e1 e2 e3 e4 => Rt.ol e4 (Rt.tL ?_))))
      obtain ⟨x, hx, hxv⟩ := hnx
      rw [hy] at hx
      injection hx with hx
      subst hx
      obtain ⟨hnl, hns⟩ := hd'.nxt
      refine Rt.ix hns (by omega) (by omega) ?_
      have e5 : (y.next.map en).getD (i : Int).toNat 0 = en (hd r) := by simp [List.getD_eq_getElem?_getD, hxv]
      rw [e5]
      have e6 : (p ++ [q]).map (fun q => (prA s q).1) = p.map (fun q => (prA s q).1) ++ [y.e] := by rw [List.map_append, List.map_singleton, hpr]
      have := ih m (p ++ [q]) r A7 c9 w7 (by rw [hc]; simp) (by simpa using hf) (by omega) hk7 (by rw [e6, List.length_append]; exact o7)
      rw [e6, List.length_append] at this
      exact this
theorem Level_spec {i : Int} (h : SkA w base b S ks) (hn : 2 ^ 60 < n) (hN : ks.length ≤ 2 ^ 30) : Rt (skip_List_Level n [pt b, .int .i64 i] w) (REv (levelA i ks) w) := by
  obtain ⟨⟨s, ord, hS, hi, hks, hby⟩, hok⟩ := h
  have hlen : s.nodes.length ≤ 2 ^ 30 := by rw [← hi.len]; rw [hks, List.length_map] at hN; omega
  rw [skip_List_Level_eq]
  have nil_ : levelA i ks = [] → Rt (some (⟨.ret, [.slice none 0 0], w⟩ : Res)) fun r => r.ex = .ret ∧ REv (levelA i ks) w (r.vals, r.w) := fun e => by
    rw [e]
    exact Rt.some' ⟨rfl, none, 0, w, rfl, ⟨SlE.nil .., fun _ => ⟨rfl, rfl⟩, Nat.le_refl _, Nat.zero_le _⟩, Kp.rfl' w⟩
  refine Rt.fin (Rt.cD (fun h => nil_ (if_neg (by omega))) fun h0 => Rt.cD (fun h => nil_ (if_neg (by omega))) fun h1 => ?_)
  obtain ⟨j, rfl⟩ : ∃ j : Nat, i = (j : Int) := ⟨i.toNat, by omega⟩
  have hj : j < 12 := by omega
  have e : levelA (j : Int) ks = (chain s ord j).map fun q => (prA s q).1 := by
    unfold levelA
    rw [if_pos (by omega), Int.toNat_natCast, hks, List.filter_map, List.map_map]
    unfold chain
    have : ord.filter ((fun y : En × Nat => decide (j < y.2)) ∘ prA s) = ord.filter fun i => decide (j < ht s i) := List.filter_congr fun q hq => by
      obtain ⟨y, h1, h2, _, h4⟩ := prA_at hi hq
      simp [h2, h4]
    rw [this]; rfl
  rw [e]
  have hL := hi.lnk j hj
  obtain ⟨R, A, c, nv, hV, hSS⟩ := id hS
  have haft := hL.hd
  have hcl := chain_len (j := j) hi
  refine Rt.os (Rt.ixRb (by omega) (by omega) (Rt.ldb hV.lc (blk_fst s _ _ _ hV.fst (by rw [Int.toNat_natCast]; exact haft)) (Rt.tI ?_)))
  refine Rt.jb (Rt.mono (Level_l0 (n := n) hS hi hj (fun q hq => ok_len hok hi hks hq) hlen (chain s ord j).length n [] (chain s ord j) none 0 w rfl rfl (by omega) (Kp.rfl' w) (OwnE.nil _ _)) ?_)
  rintro ⟨ex, vs, w1⟩ ⟨h1, D, c8, h2, h3, k1⟩
  dsimp only at h1 h2 h3 k1
  subst h1 h2
  refine .inl ⟨.inr rfl, ?_⟩
  (repeat (first | (with_reducible (first | refine Rt.fin ?_ | refine Rt.tL ?_ | refine Rt.tI ?_ | refine Rt.tB ?_ | refine Rt.tS ?_ | refine Rt.tP ?_ | refine Rt.tD ?_ | refine Rt.tM ?_ | refine Rt.tC ?_ | refine Rt.tN ?_ | refine Rt.tA ?_ | refine Rt.tG ?_ | refine Rt.tF ?_ | refine Rt.os ?_ | refine Rt.clS ?_ | refine Rt.jmN ?_ | refine Rt.jbN ?_ | refine Rt.jbE ?_)) | ((with_reducible (first | apply Rt.ld0 | apply Rt.ld1 | apply Rt.ld2 | apply Rt.ld3 | apply Rt.ld4 | apply Rt.ld5)); first | assumption | exact Lc.kp (by assumption) (by assumption)) | ((with_reducible apply Rt.ol); first | assumption | exact cell_kp (by assumption) (by assumption)) | ((with_reducible apply Rt.ckR); focus ((repeat (first | (with_reducible (first | refine Rt.fin ?_ | refine Rt.tL ?_ | refine Rt.tI ?_ | refine Rt.tB ?_ | refine Rt.tS ?_ | refine Rt.tP ?_ | refine Rt.tD ?_ | refine Rt.tM ?_ | refine Rt.tC ?_ | refine Rt.tN ?_ | refine Rt.tA ?_ | refine Rt.tG ?_ | refine Rt.tF ?_ | refine Rt.os ?_ | refine Rt.clS ?_ | refine Rt.jmN ?_ | refine Rt.jbN ?_ | refine Rt.jbE ?_)) | ((with_reducible (first | apply Rt.ld0 | apply Rt.ld1 | apply Rt.ld2 | apply Rt.ld3 | apply Rt.ld4 | apply Rt.ld5)); first | assumption | exact Lc.kp (by assumption) (by assumption)) | ((with_reducible apply Rt.ol); first | assumption | exact cell_kp (by assumption) (by assumption)))); exact Rt.some' rfl))))
  exact Rt.some' ⟨rfl, D, c8, w1, rfl, h3, k1⟩
theorem All_spec (h : SkA w base b S ks) (hn : 2 ^ 60 < n) (hN : ks.length ≤ 2 ^ 30) : Rt (skip_List_All n [pt b] w) (REv (levelA 0 ks) w) := by
  rw [skip_List_All_eq]
  refine Rt.fin (Rt.cEv (Level_spec h hn hN) fun B d w1 h1 k1 => ?_)
  exact Rt.some' ⟨rfl, B, d, w1, rfl, h1, k1⟩
theorem level0 (hok : ∀ y ∈ ks, rightE y.1 ∧ 1 ≤ y.2 ∧ y.2 ≤ 12) : levelA 0 ks = ks.map Prod.fst := by
  unfold levelA
  rw [if_pos (by omega), List.filter_eq_self.2 fun y hy => by have := (hok y hy).2.1; simp; omega]
end
end Go.Proofs.Ytoilmnplocfipaa.Sk
