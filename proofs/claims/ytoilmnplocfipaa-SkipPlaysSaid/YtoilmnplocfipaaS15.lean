/- The definition's list, as it lies in memory: rows that stay whatever of a set turns. -/
import Derived.Test.YtoilmnplocfipaaS10
namespace Go.Proofs.Ytoilmnplocfipaa.Big
open Go Go.RowKit
set_option linter.unusedVariables false
set_option linter.unusedSimpArgs false
section
variable {α γ : Type} {E : El γ} {Q : α → Prop} {P : Program} {t e : TypeId} {w w' w0 : World} {base : Nat} {v : Value} {xs ys : List γ} {S S' : Nat → Prop} {i : TypeInfo} {z : Value} {A : Option Addr} {l c n d m : Nat}
/-- A slice whose elements stay readable whatever of S turns. -/
structure SlX (S : Nat → Prop) (E : El γ) (w : World) (A : Option Addr) (n c : Nat) (xs : List γ) : Prop where
  len : xs.length = n
  cap : n ≤ c
  nil : A = none → n = 0 ∧ c = 0
  row : xs = [] ∨ ∃ a vs, A = some a ∧ Stb S (fun w => Rows E w vs xs) w ∧ ∀ j u, vs[j]? = some u → w.cell? (a.add j) = some u
theorem SlX.kp (h : SlX S E w A n c xs) (hk : Kp w w') : SlX S E w' A n c xs :=
  ⟨h.len, h.cap, h.nil, h.row.imp id fun ⟨a, vs, e, hr, hc⟩ => ⟨a, vs, e, hr.kp hk, fun j u hj => by
    have := hc j u hj
    rw [Below.cell hk (World.block_lt_of_cell? w _ this)]; exact this⟩⟩
theorem SlX.less (h : SlX S E w A n c xs) (hs : ∀ k, k < w.heap.size → S' k → S k) : SlX S' E w A n c xs :=
  ⟨h.len, h.cap, h.nil, h.row.imp id fun ⟨a, vs, e, hr, hc⟩ => ⟨a, vs, e, hr.less hs, hc⟩⟩
theorem OwnX.slx (h : OwnX S E e w base (.slice A l c) xs) : SlX S E w A l c xs := by
  obtain ⟨vs, h1, h2⟩ := h
  rcases h1.2 with ⟨h', hn⟩ | ⟨g, cap, cur, h', e1, e2, e3, _⟩
  · injection h' with a1 a2 a3
    subst a1 a2 a3
    exact ⟨hn, Nat.le_refl _, fun _ => ⟨rfl, rfl⟩, .inl (List.length_eq_zero_iff.1 hn)⟩
  · injection h' with a1 a2 a3
    subst a1 a2 a3
    exact ⟨rfl, e3, (fun h => by cases h), .inr ⟨_, vs, rfl, h2.less fun k _ hk => .inl hk, fun j u hj => h1.cells (g := g) rfl j u hj⟩⟩
theorem OwnX.lessw (h : OwnX S E e w base v xs) (hs : ∀ k, k < w.heap.size → S' k → S k) : OwnX S' E e w base v xs := by
  obtain ⟨vs, h1, h2⟩ := h
  exact ⟨vs, h1, h2.less fun k hl hk => hk.imp (hs k hl) id⟩
theorem SlX.ev (h : SlX S E w A n c xs) (hm : c ≤ maxLen) : Ev E w A n c xs :=
  ⟨⟨h.len, h.row.imp id fun ⟨a, vs, e, hr, hc⟩ => ⟨a, vs, e, hr.out, hc⟩⟩, h.nil, h.cap, hm⟩
theorem Rt.cutX {sz : Nat} (h : SlX S E w A n c xs) (hz : E.sz = sz) {lo hi : Int} (h0 : 0 ≤ lo) (h1 : lo ≤ hi) (h2 : hi ≤ n) {f : Option Addr → Nat → Nat → Option α}
    (hf : ∀ B, SlX S E w B (hi.toNat - lo.toNat) (c - lo.toNat) ((xs.take hi.toNat).drop lo.toNat) → Rt (f B (hi.toNat - lo.toNat) (c - lo.toNat)) Q) : Rt (cutS A c lo hi sz f) Q := by
  subst hz
  have hc := h.cap
  have hl := h.len
  rw [cutS, if_pos ⟨h0, h1, by omega⟩]
  refine hf _ ⟨by simp [hl]; omega, by omega, fun hB => ?_, ?_⟩
  · cases A with
    | none => have := h.nil rfl; omega
    | some a => split at hB <;> simp at hB
  · rcases h.row with hn | ⟨a, vs, rfl, hr, hcc⟩
    · left; rw [hn]; simp
    · by_cases hl0 : hi.toNat - lo.toNat = 0
      · left; apply List.length_eq_zero_iff.1; simp [hl]; omega
      · right
        rw [if_neg (by omega)]
        refine ⟨_, (vs.take (hi.toNat * E.sz)).drop (lo.toNat * E.sz), rfl, fun w' hg => ((hr w' hg).take _).drop _, fun j v hj => ?_⟩
        rw [Addr.add_add]
        refine hcc _ _ ?_
        rw [List.getElem?_drop, List.getElem?_take] at hj
        split at hj
        · exact hj
        · cases hj
/-- append(own, other..), whatever turns. -/
theorem Rt.appX {sz : Nat} (hz : E.sz = sz) (hT : SlTE P t e sz i z) {ty : TypeId} (ho : OwnX S E e w base v xs) {B : Option Addr} (hs : SlX (fun k => S k ∨ On v k) E w B m d ys) (hn : xs.length + m ≤ 2 ^ 36) (hb : base ≤ w.heap.size)
    {f : Value → World → Option α} (h : ∀ A c w', OwnX S E e w' base (.slice A (xs.length + m) c) (xs ++ ys) → Gx (On v) w w' → w.heap.size ≤ w'.heap.size → Rt (f (.slice A (xs.length + m) c) w') Q) :
    Rt (rn P (Builtin.append_ #[t, t] ty #[v, .slice B m d]) w f) Q := by
  subst hz
  obtain ⟨vs, ho, hvs⟩ := ho
  have hml := hs.len
  have fin_ : ∀ v' w', OwnX S E e w' base v' (xs ++ ys) → Gx (On v) w w' → w.heap.size ≤ w'.heap.size → Rt (f v' w') Q := fun v' w' hO hg hsz => by
    obtain ⟨A, c, rfl, _⟩ := hO.ownE.slice
    have hl : (xs ++ ys).length = xs.length + m := by rw [List.length_append, hml]
    rw [hl] at hO ⊢
    exact h A c w' hO hg hsz
  by_cases hys : ys = []
  · subst hys
    have hm : m = 0 := hml.symm
    subst hm
    cases B with
    | none =>
      obtain ⟨_, rfl⟩ := hs.nil rfl
      have hr' := run_append_owned_none (P := P) w base t ty e i E.sz hT.under hT.info v _ _ ho
      have e1 : rn P (Builtin.append_ #[t, t] ty #[v, .slice none 0 0]) w f = f v w := by simp only [rn, hr']
      rw [e1]
      exact fin_ v w (by rw [List.append_nil]; exact ⟨vs, ho, hvs⟩) (Gx.rfl' _ _) (Nat.le_refl _)
    | some a =>
      have hbytes : (xs.length + 0) * i.bytes ≤ 140737488355328 := Nat.le_trans (Nat.mul_le_mul hn hT.bytes) (by decide)
      obtain ⟨v', w', h1, h2, h3, _, h5⟩ := run_append_own_at (P := P) w base t ty e i z E.sz i.bytes hT.under hT.info hT.zero hT.size rfl hT.cells hT.pos v _ _ ho a 0 d [] (by simp) (fun j u hj => by simp at hj) (fun u hu => by cases hu) (by simp only [maxLen]; omega) hbytes hb
      have e1 : rn P (Builtin.append_ #[t, t] ty #[v, .slice (some a) 0 d]) w f = f v' w' := by simp only [rn, h1]
      rw [e1]
      refine fin_ v' w' ⟨vs ++ [], by rw [List.length_append]; exact h2, fun w2 hw2 => ?_⟩ (Gx.of_grown h3) h3.size
      have hg : Gx (fun k => S k ∨ On v k) w w' := (Gx.of_grown h3).wide fun k _ e => .inr e
      have hg2 : Gx (fun k => S k ∨ On v k) w w2 := hg.tr' hw2 fun k hk e => by
        rcases e with e | e
        · exact .inl e
        · rcases h5 with h5 | h5
          · have e : v'.ownBlock = some k := e
            rw [h5] at e; exact .inr e
          · have e : v'.ownBlock = some k := e
            rw [h5] at e; injection e with e; omega
      exact (hvs _ hg2).app rfl
  · obtain ⟨a, us, rfl, hr, hc⟩ := hs.row.resolve_left hys
    have hbytes : (xs.length + m) * i.bytes ≤ 140737488355328 := Nat.le_trans (Nat.mul_le_mul hn hT.bytes) (by decide)
    obtain ⟨v', w', h1, h2, h3, _, h5⟩ := run_append_own_at (P := P) w base t ty e i z E.sz i.bytes hT.under hT.info hT.zero hT.size rfl hT.cells hT.pos v _ _ ho a m d us (by rw [hr.out.len, hml]) hc hr.out.ones (by simp only [maxLen]; omega) hbytes hb
    have e1 : rn P (Builtin.append_ #[t, t] ty #[v, .slice (some a) m d]) w f = f v' w' := by simp only [rn, h1]
    rw [e1]
    refine fin_ v' w' ⟨vs ++ us, by rw [List.length_append, hml]; exact h2, fun w2 hw2 => ?_⟩ (Gx.of_grown h3) h3.size
    have hg : Gx (fun k => S k ∨ On v k) w w' := (Gx.of_grown h3).wide fun k _ e => .inr e
    have hg2 : Gx (fun k => S k ∨ On v k) w w2 := hg.tr' hw2 fun k hk e => by
      rcases e with e | e
      · exact .inl e
      · rcases h5 with h5 | h5
        · have e : v'.ownBlock = some k := e
          rw [h5] at e; exact .inr e
        · have e : v'.ownBlock = some k := e
          rw [h5] at e; injection e with e; omega
    exact (hvs _ hg2).app (hr _ hg2)
end
end Go.Proofs.Ytoilmnplocfipaa.Big
namespace Go.Proofs.Ytoilmnplocfipaa.Sk
open Go Big Go.RowKit Go.IntWalk Ik
set_option linter.unusedVariables false
set_option linter.unusedSimpArgs false
theorem slE' : ∃ i v, SlTE Try.prog 22 34 4 i v := slE
def htA (ks : List (En × Nat)) : List Int := ks.map fun y => (y.2 : Int)
structure RfV (w : World) (base b : Nat) (R : Nat → Prop) (A : Option Addr) (c : Nat) (B : Option Addr) (d : Nat) (ks : List (En × Nat)) : Prop where
  lo : base ≤ b
  lc : Lc w b [.slice A ks.length c, .slice B ks.length d]
  row : OwnX (fun j => ¬ R j) enEl 34 w base (.slice A ks.length c) (ks.map Prod.fst)
  hts : Own .i64 3 w base (.slice B ks.length d) (htA ks)
  rlo : ∀ j, R j → base ≤ j ∧ j < w.heap.size
  rb : ¬ R b
  onA : ∀ j, On (.slice A ks.length c) j → R j
  onB : ∀ j, On (.slice B ks.length d) j → R j
def Rf (w : World) (base b : Nat) (S : Nat → Prop) (ks : List (En × Nat)) : Prop := ∃ R A c B d, RfV w base b R A c B d ks ∧ ∀ j, S j ↔ j = b ∨ R j
section
variable {α : Type} {Q : α → Prop} {n base b : Nat} {w w' w0 : World} {S T R : Nat → Prop} {A B : Option Addr} {c l m d : Nat} {ks : List (En × Nat)} {x : En} {k : Key} {s0 k0 : Int}
theorem RfV.gx (h : RfV w base b R A c B d ks) (hg : Gx T w w') (hn : ∀ j, j = b ∨ R j → ¬ T j) : RfV w' base b R A c B d ks :=
  ⟨h.lo, h.lc.gx hg (hn b (.inl rfl)), h.row.gx hg (fun k _ hk hR => hn k (.inr hR) hk) fun k hk ho => hn k (.inr (h.onA k ho)) hk, h.hts.gx hg fun j hj => hn j (.inr (h.onB j hj)), fun j hj => ⟨(h.rlo j hj).1, Nat.lt_of_lt_of_le (h.rlo j hj).2 hg.size⟩, h.rb, h.onA, h.onB⟩
theorem Rf.gx (h : Rf w base b S ks) (hg : Gx T w w') (hn : ∀ j, S j → ¬ T j) : Rf w' base b S ks := by
  obtain ⟨R, A, c, B, d, h1, h2⟩ := h
  exact ⟨R, A, c, B, d, h1.gx hg fun j hj => hn j ((h2 j).2 hj), h2⟩
theorem Rf.kp (h : Rf w base b S ks) (hk : Kp w w') : Rf w' base b S ks := h.gx (T := fun _ => False) hk.gx fun _ _ h => h
theorem Rf.lt (h : Rf w base b S ks) {j : Nat} (hj : S j) : base ≤ j ∧ j < w.heap.size := by
  obtain ⟨R, A, c, B, d, h1, h2⟩ := h
  rcases (h2 j).1 hj with rfl | hj
  · exact ⟨h1.lo, h1.lc.lt⟩
  · exact h1.rlo j hj
theorem RfV.ev (h : RfV w base b R A c B d ks) : Ev enEl w A ks.length c (ks.map Prod.fst) := h.row.ownE.ev
theorem htA_len : (htA ks).length = ks.length := by unfold htA; rw [List.length_map]
theorem NewList_spec (hb : base ≤ w.heap.size) : Rt (butteryref9_NewList n [] w) fun r => ∃ w' b S, r = ([pt b], w') ∧ Kp w w' ∧ Rf w' base b S [] ∧ ∀ j, S j → w.heap.size ≤ j := by
  rw [butteryref9_NewList_eq]
  refine Rt.fin (Rt.al fun w1 l1 k1 s1 => Rt.some' ⟨rfl, w1, w.heap.size, fun j => j = w.heap.size, rfl, k1, ⟨fun _ => False, none, 0, none, 0, ⟨hb, l1, OwnX.nil _ _ _, Own.nil _ _, (fun j h => h.elim), (fun h => h), (fun j h => by cases h), fun j h => by cases h⟩, fun j => by simp⟩, fun j hj => by omega⟩)
theorem at_l0 {bb : Nat} {K : Option Addr} {kl kc : Nat} (h : RfV w base b R A c B d ks) (hs : srtA ks) (hL : ∀ y ∈ ks, y.1.key.length ≤ 256) (hk : KeyV w K kl kc s0 k0 k) (hl : Lc w bb [.slice K kl kc, .int .u64 s0, .int .i64 k0]) (hn : 300 < n) (hN : ks.length ≤ 2 ^ 30) : ∀ (f i j : Nat) (w' : World), i + f = ks.length → f < j → Kp w w' → (∀ y ∈ ks.take i, belA k y = true) →
    Rt (butteryref9_List_at.l0 n j (some ⟨b, 0, none⟩) ⟨bb, 0, none⟩ (i : Int) w') fun r => r.ex = .exit 0 ∧ r.vals = [.int .i64 ((ks.takeWhile (belA k)).length : Int)] ∧ Kp w r.w := by
  have hev := h.ev
  have tw : ∀ {p t : List (En × Nat)}, ks = p ++ t → (∀ y ∈ p, belA k y = true) → (t = [] ∨ ∃ y r, t = y :: r ∧ belA k y = false) → ks.takeWhile (belA k) = p := fun {p t} e hp ht => by
    rw [e, List.takeWhile_append_of_pos hp]
    rcases ht with rfl | ⟨y, r, rfl, hy⟩
    · simp
    · rw [List.takeWhile_cons_of_neg (by simp [hy]), List.append_nil]
  intro f
  induction f with
  | zero =>
    intro i j w' hi hj hk' hp
    obtain ⟨j, rfl⟩ : ∃ j', j = j' + 1 := ⟨j - 1, by omega⟩
    rw [butteryref9_List_at.l0_succ]
    have hd := hk'.dr
    have l0 := h.lc.kp hd
    (repeat (first | (with_reducible (first | refine Rt.fin ?_ | refine Rt.tL ?_ | refine Rt.tI ?_ | refine Rt.tB ?_ | refine Rt.tS ?_ | refine Rt.tP ?_ | refine Rt.tD ?_ | refine Rt.tM ?_ | refine Rt.tC ?_ | refine Rt.tN ?_ | refine Rt.tA ?_ | refine Rt.tG ?_ | refine Rt.tF ?_ | refine Rt.os ?_ | refine Rt.clS ?_ | refine Rt.jmN ?_ | refine Rt.jbN ?_ | refine Rt.jbE ?_)) | ((with_reducible (first | apply Rt.ld0 | apply Rt.ld1 | apply Rt.ld2 | apply Rt.ld3 | apply Rt.ld4 | apply Rt.ld5)); first | assumption | exact Lc.kp (by assumption) (by assumption)) | ((with_reducible apply Rt.ol); first | assumption | exact cell_kp (by assumption) (by assumption)) | ((with_reducible apply Rt.ckR); focus ((repeat (first | (with_reducible (first | refine Rt.fin ?_ | refine Rt.tL ?_ | refine Rt.tI ?_ | refine Rt.tB ?_ | refine Rt.tS ?_ | refine Rt.tP ?_ | refine Rt.tD ?_ | refine Rt.tM ?_ | refine Rt.tC ?_ | refine Rt.tN ?_ | refine Rt.tA ?_ | refine Rt.tG ?_ | refine Rt.tF ?_ | refine Rt.os ?_ | refine Rt.clS ?_ | refine Rt.jmN ?_ | refine Rt.jbN ?_ | refine Rt.jbE ?_)) | ((with_reducible (first | apply Rt.ld0 | apply Rt.ld1 | apply Rt.ld2 | apply Rt.ld3 | apply Rt.ld4 | apply Rt.ld5)); first | assumption | exact Lc.kp (by assumption) (by assumption)) | ((with_reducible apply Rt.ol); first | assumption | exact cell_kp (by assumption) (by assumption)))); exact Rt.some' rfl))))
    rw [List.take_of_length_le (by omega)] at hp
    rw [tw (List.append_nil ks).symm hp (.inl rfl)]
    obtain rfl : i = ks.length := by omega
    exact Rt.cDF (by omega) (Rt.some' ⟨rfl, rfl, hd⟩)
  | succ f ih =>
    intro i j w' hi hj hk' hp
    obtain ⟨j, rfl⟩ : ∃ j', j = j' + 1 := ⟨j - 1, by omega⟩
    rw [butteryref9_List_at.l0_succ]
    have hd := hk'.dr
    have l0 := h.lc.kp hd
    have lk := hl.kp hd
    have hyi : ks[i]? = some (ks[i]'(by omega)) := List.getElem?_eq_getElem _
    generalize (ks[i]'(by omega)) = yi at hyi
    (repeat (first | (with_reducible (first | refine Rt.fin ?_ | refine Rt.tL ?_ | refine Rt.tI ?_ | refine Rt.tB ?_ | refine Rt.tS ?_ | refine Rt.tP ?_ | refine Rt.tD ?_ | refine Rt.tM ?_ | refine Rt.tC ?_ | refine Rt.tN ?_ | refine Rt.tA ?_ | refine Rt.tG ?_ | refine Rt.tF ?_ | refine Rt.os ?_ | refine Rt.clS ?_ | refine Rt.jmN ?_ | refine Rt.jbN ?_ | refine Rt.jbE ?_)) | ((with_reducible (first | apply Rt.ld0 | apply Rt.ld1 | apply Rt.ld2 | apply Rt.ld3 | apply Rt.ld4 | apply Rt.ld5)); first | assumption | exact Lc.kp (by assumption) (by assumption)) | ((with_reducible apply Rt.ol); first | assumption | exact cell_kp (by assumption) (by assumption)) | ((with_reducible apply Rt.ckR); focus ((repeat (first | (with_reducible (first | refine Rt.fin ?_ | refine Rt.tL ?_ | refine Rt.tI ?_ | refine Rt.tB ?_ | refine Rt.tS ?_ | refine Rt.tP ?_ | refine Rt.tD ?_ | refine Rt.tM ?_ | refine Rt.tC ?_ | refine Rt.tN ?_ | refine Rt.tA ?_ | refine Rt.tG ?_ | refine Rt.tF ?_ | refine Rt.os ?_ | refine Rt.clS ?_ | refine Rt.jmN ?_ | refine Rt.jbN ?_ | refine Rt.jbE ?_)) | ((with_reducible (first | apply Rt.ld0 | apply Rt.ld1 | apply Rt.ld2 | apply Rt.ld3 | apply Rt.ld4 | apply Rt.ld5)); first | assumption | exact Lc.kp (by assumption) (by assumption)) | ((with_reducible apply Rt.ol); first | assumption | exact cell_kp (by assumption) (by assumption)))); exact Rt.some' rfl))))
    refine Rt.cDT (by omega) ?_
    (repeat (first | (with_reducible (first | refine Rt.fin ?_ | refine Rt.tL ?_ | refine Rt.tI ?_ | refine Rt.tB ?_ | refine Rt.tS ?_ | refine Rt.tP ?_ | refine Rt.tD ?_ | refine Rt.tM ?_ | refine Rt.tC ?_ | refine Rt.tN ?_ | refine Rt.tA ?_ | refine Rt.tG ?_ | refine Rt.tF ?_ | refine Rt.os ?_ | refine Rt.clS ?_ | refine Rt.jmN ?_ | refine Rt.jbN ?_ | refine Rt.jbE ?_)) | ((with_reducible (first | apply Rt.ld0 | apply Rt.ld1 | apply Rt.ld2 | apply Rt.ld3 | apply Rt.ld4 | apply Rt.ld5)); first | assumption | exact Lc.kp (by assumption) (by assumption)) | ((with_reducible apply Rt.ol); first | assumption | exact cell_kp (by assumption) (by assumption)) | ((with_reducible apply Rt.ckR); focus ((repeat (first | (with_reducible (first | refine Rt.fin ?_ | refine Rt.tL ?_ | refine Rt.tI ?_ | refine Rt.tB ?_ | refine Rt.tS ?_ | refine Rt.tP ?_ | refine Rt.tD ?_ | refine Rt.tM ?_ | refine Rt.tC ?_ | refine Rt.tN ?_ | refine Rt.tA ?_ | refine Rt.tG ?_ | refine Rt.tF ?_ | refine Rt.os ?_ | refine Rt.clS ?_ | refine Rt.jmN ?_ | refine Rt.jbN ?_ | refine Rt.jbE ?_)) | ((with_reducible (first | apply Rt.ld0 | apply Rt.ld1 | apply Rt.ld2 | apply Rt.ld3 | apply Rt.ld4 | apply Rt.ld5)); first | assumption | exact Lc.kp (by assumption) (by assumption)) | ((with_reducible apply Rt.ol); first | assumption | exact cell_kp (by assumption) (by assumption)))); exact Rt.some' rfl))))
    refine Rt.ixN (hev.kp hd).sl (by omega) (by omega) fun y a B1 b1 b2 s k' C c1 c2 ey hv g0 g1 g2 g3 => ?_
    rw [Int.toNat_natCast, List.getElem?_map, hyi] at ey
    injection ey with ey
    subst ey
    (repeat (first | (with_reducible (first | refine Rt.fin ?_ | refine Rt.tL ?_ | refine Rt.tI ?_ | refine Rt.tB ?_ | refine Rt.tS ?_ | refine Rt.tP ?_ | refine Rt.tD ?_ | refine Rt.tM ?_ | refine Rt.tC ?_ | refine Rt.tN ?_ | refine Rt.tA ?_ | refine Rt.tG ?_ | refine Rt.tF ?_ | refine Rt.os ?_ | refine Rt.clS ?_ | refine Rt.jmN ?_ | refine Rt.jbN ?_ | refine Rt.jbE ?_)) | ((with_reducible (first | apply Rt.ld0 | apply Rt.ld1 | apply Rt.ld2 | apply Rt.ld3 | apply Rt.ld4 | apply Rt.ld5)); first | assumption | exact Lc.kp (by assumption) (by assumption)) | ((with_reducible apply Rt.ol); first | assumption | exact cell_kp (by assumption) (by assumption)) | ((with_reducible apply Rt.ckR); focus ((repeat (first | (with_reducible (first | refine Rt.fin ?_ | refine Rt.tL ?_ | refine Rt.tI ?_ | refine Rt.tB ?_ | refine Rt.tS ?_ | refine Rt.tP ?_ | refine Rt.tD ?_ | refine Rt.tM ?_ | refine Rt.tC ?_ | refine Rt.tN ?_ | refine Rt.tA ?_ | refine Rt.tG ?_ | refine Rt.tF ?_ | refine Rt.os ?_ | refine Rt.clS ?_ | refine Rt.jmN ?_ | refine Rt.jbN ?_ | refine Rt.jbE ?_)) | ((with_reducible (first | apply Rt.ld0 | apply Rt.ld1 | apply Rt.ld2 | apply Rt.ld3 | apply Rt.ld4 | apply Rt.ld5)); first | assumption | exact Lc.kp (by assumption) (by assumption)) | ((with_reducible apply Rt.ol); first | assumption | exact cell_kp (by assumption) (by assumption)))); exact Rt.some' rfl))))
    have hyl := hL _ (List.mem_of_getElem? hyi)
    have hb1 := hv.key.len
    refine Rt.cI (RCompare_spec hv.kv (hk.kp hd) (by omega) (by omega)) fun w1 k1 => ?_
    have hk1 := hd.tr k1
    refine Rt.cD (fun hlt => ?_) fun hge => ?_
    · rw [i64_in _ (by omega), show ((i : Int) + 1) = ((i + 1 : Nat) : Int) by omega]
      refine ih (i + 1) j w1 (by omega) (by omega) hk1 fun y hy => ?_
      rw [List.take_add_one, hyi] at hy
      rcases List.mem_append.1 hy with hy | hy
      · exact hp y hy
      · simp at hy; subst hy; simpa [belA] using hlt
    · have e : ks = ks.take i ++ ks.drop i := (List.take_append_drop i ks).symm
      have e2 : ks.drop i = yi :: ks.drop (i + 1) := by
        rw [List.drop_eq_getElem_cons (by omega : i < ks.length)]
        rw [List.getElem?_eq_getElem (by omega)] at hyi
        injection hyi with hyi; rw [hyi]
      rw [tw e hp (.inr ⟨yi, _, e2, by simpa [belA] using hge⟩), List.length_take, Nat.min_eq_left (by omega)]
      exact Rt.some' ⟨rfl, rfl, hk1⟩
theorem at_spec {K : Option Addr} {kl kc : Nat} (h : Rf w base b S ks) (hs : srtA ks) (hL : ∀ y ∈ ks, y.1.key.length ≤ 256) (hk : KeyV w K kl kc s0 k0 k) (hn : 2 ^ 60 < n) (hN : ks.length ≤ 2 ^ 30) :
    Rt (butteryref9_List_at n [pt b, kv K kl kc s0 k0] w) (RI .i64 ((ks.takeWhile (belA k)).length : Int) w) := by
  obtain ⟨R, A, c, B, d, hV, _⟩ := h
  rw [butteryref9_List_at_eq]
  refine Rt.fin (Rt.al fun w1 l1 k1 s1 => ?_)
  have hV1 := hV.gx (T := fun _ => False) k1.gx fun _ _ h => h
  refine Rt.jb (Rt.mono (at_l0 (n := n) hV1 hs hL (hk.kp k1) l1 (by omega) hN ks.length 0 n w1 (by omega) (by omega) (Kp.rfl' _) (by simp)) ?_)
  rintro ⟨ex, vs, w2⟩ ⟨h1, h2, k2⟩
  dsimp only at h1 h2 k2
  subst h1 h2
  refine .inl ⟨.inr rfl, ?_⟩
  (repeat (first | (with_reducible (first | refine Rt.fin ?_ | refine Rt.tL ?_ | refine Rt.tI ?_ | refine Rt.tB ?_ | refine Rt.tS ?_ | refine Rt.tP ?_ | refine Rt.tD ?_ | refine Rt.tM ?_ | refine Rt.tC ?_ | refine Rt.tN ?_ | refine Rt.tA ?_ | refine Rt.tG ?_ | refine Rt.tF ?_ | refine Rt.os ?_ | refine Rt.clS ?_ | refine Rt.jmN ?_ | refine Rt.jbN ?_ | refine Rt.jbE ?_)) | ((with_reducible (first | apply Rt.ld0 | apply Rt.ld1 | apply Rt.ld2 | apply Rt.ld3 | apply Rt.ld4 | apply Rt.ld5)); first | assumption | exact Lc.kp (by assumption) (by assumption)) | ((with_reducible apply Rt.ol); first | assumption | exact cell_kp (by assumption) (by assumption)) | ((with_reducible apply Rt.ckR); focus ((repeat (first | (with_reducible (first | refine Rt.fin ?_ | refine Rt.tL ?_ | refine Rt.tI ?_ | refine Rt.tB ?_ | refine Rt.tS ?_ | refine Rt.tP ?_ | refine Rt.tD ?_ | refine Rt.tM ?_ | refine Rt.tC ?_ | refine Rt.tN ?_ | refine Rt.tA ?_ | refine Rt.tG ?_ | refine Rt.tF ?_ | refine Rt.os ?_ | refine Rt.clS ?_ | refine Rt.jmN ?_ | refine Rt.jbN ?_ | refine Rt.jbE ?_)) | ((with_reducible (first | apply Rt.ld0 | apply Rt.ld1 | apply Rt.ld2 | apply Rt.ld3 | apply Rt.ld4 | apply Rt.ld5)); first | assumption | exact Lc.kp (by assumption) (by assumption)) | ((with_reducible apply Rt.ol); first | assumption | exact cell_kp (by assumption) (by assumption)))); exact Rt.some' rfl))))
  exact Rt.endI rfl (k1.tr k2)
theorem RRightK_spec {K : Option Addr} {kl kc : Nat} {ks kk : Int} {x : Key} (hx : KeyV w K kl kc ks kk x) : Rt (butteryref1_RightKey n [kv K kl kc ks kk] w) (RB (rightK x) w) := by
  have hl := hx.key.len
  have h1 := hx.seq
  have h2 := hx.kind
  rw [butteryref1_RightKey_eq]
  refine Rt.fin (Rt.al fun w1 l1 k1 _ => ?_)
  unfold rightK
  (repeat (first | (with_reducible (first | refine Rt.fin ?_ | refine Rt.tL ?_ | refine Rt.tI ?_ | refine Rt.tB ?_ | refine Rt.tS ?_ | refine Rt.tP ?_ | refine Rt.tD ?_ | refine Rt.tM ?_ | refine Rt.tC ?_ | refine Rt.tN ?_ | refine Rt.tA ?_ | refine Rt.tG ?_ | refine Rt.tF ?_ | refine Rt.os ?_ | refine Rt.clS ?_ | refine Rt.jmN ?_ | refine Rt.jbN ?_ | refine Rt.jbE ?_)) | ((with_reducible (first | apply Rt.ld0 | apply Rt.ld1 | apply Rt.ld2 | apply Rt.ld3 | apply Rt.ld4 | apply Rt.ld5)); first | assumption | exact Lc.kp (by assumption) (by assumption)) | ((with_reducible apply Rt.ol); first | assumption | exact cell_kp (by assumption) (by assumption)) | ((with_reducible apply Rt.ckR); focus ((repeat (first | (with_reducible (first | refine Rt.fin ?_ | refine Rt.tL ?_ | refine Rt.tI ?_ | refine Rt.tB ?_ | refine Rt.tS ?_ | refine Rt.tP ?_ | refine Rt.tD ?_ | refine Rt.tM ?_ | refine Rt.tC ?_ | refine Rt.tN ?_ | refine Rt.tA ?_ | refine Rt.tG ?_ | refine Rt.tF ?_ | refine Rt.os ?_ | refine Rt.clS ?_ | refine Rt.jmN ?_ | refine Rt.jbN ?_ | refine Rt.jbE ?_)) | ((with_reducible (first | apply Rt.ld0 | apply Rt.ld1 | apply Rt.ld2 | apply Rt.ld3 | apply Rt.ld4 | apply Rt.ld5)); first | assumption | exact Lc.kp (by assumption) (by assumption)) | ((with_reducible apply Rt.ol); first | assumption | exact cell_kp (by assumption) (by assumption)))); exact Rt.some' rfl))))
  refine Rt.cD (fun h => ?_) fun h => Rt.endB (by simp; omega) k1
  (repeat (first | (with_reducible (first | refine Rt.fin ?_ | refine Rt.tL ?_ | refine Rt.tI ?_ | refine Rt.tB ?_ | refine Rt.tS ?_ | refine Rt.tP ?_ | refine Rt.tD ?_ | refine Rt.tM ?_ | refine Rt.tC ?_ | refine Rt.tN ?_ | refine Rt.tA ?_ | refine Rt.tG ?_ | refine Rt.tF ?_ | refine Rt.os ?_ | refine Rt.clS ?_ | refine Rt.jmN ?_ | refine Rt.jbN ?_ | refine Rt.jbE ?_)) | ((with_reducible (first | apply Rt.ld0 | apply Rt.ld1 | apply Rt.ld2 | apply Rt.ld3 | apply Rt.ld4 | apply Rt.ld5)); first | assumption | exact Lc.kp (by assumption) (by assumption)) | ((with_reducible apply Rt.ol); first | assumption | exact cell_kp (by assumption) (by assumption)) | ((with_reducible apply Rt.ckR); focus ((repeat (first | (with_reducible (first | refine Rt.fin ?_ | refine Rt.tL ?_ | refine Rt.tI ?_ | refine Rt.tB ?_ | refine Rt.tS ?_ | refine Rt.tP ?_ | refine Rt.tD ?_ | refine Rt.tM ?_ | refine Rt.tC ?_ | refine Rt.tN ?_ | refine Rt.tA ?_ | refine Rt.tG ?_ | refine Rt.tF ?_ | refine Rt.os ?_ | refine Rt.clS ?_ | refine Rt.jmN ?_ | refine Rt.jbN ?_ | refine Rt.jbE ?_)) | ((with_reducible (first | apply Rt.ld0 | apply Rt.ld1 | apply Rt.ld2 | apply Rt.ld3 | apply Rt.ld4 | apply Rt.ld5)); first | assumption | exact Lc.kp (by assumption) (by assumption)) | ((with_reducible apply Rt.ol); first | assumption | exact cell_kp (by assumption) (by assumption)))); exact Rt.some' rfl))))
  refine Rt.cD (fun h => ?_) fun h => Rt.endB (by simp; omega) k1
  (repeat (first | (with_reducible (first | refine Rt.fin ?_ | refine Rt.tL ?_ | refine Rt.tI ?_ | refine Rt.tB ?_ | refine Rt.tS ?_ | refine Rt.tP ?_ | refine Rt.tD ?_ | refine Rt.tM ?_ | refine Rt.tC ?_ | refine Rt.tN ?_ | refine Rt.tA ?_ | refine Rt.tG ?_ | refine Rt.tF ?_ | refine Rt.os ?_ | refine Rt.clS ?_ | refine Rt.jmN ?_ | refine Rt.jbN ?_ | refine Rt.jbE ?_)) | ((with_reducible (first | apply Rt.ld0 | apply Rt.ld1 | apply Rt.ld2 | apply Rt.ld3 | apply Rt.ld4 | apply Rt.ld5)); first | assumption | exact Lc.kp (by assumption) (by assumption)) | ((with_reducible apply Rt.ol); first | assumption | exact cell_kp (by assumption) (by assumption)) | ((with_reducible apply Rt.ckR); focus ((repeat (first | (with_reducible (first | refine Rt.fin ?_ | refine Rt.tL ?_ | refine Rt.tI ?_ | refine Rt.tB ?_ | refine Rt.tS ?_ | refine Rt.tP ?_ | refine Rt.tD ?_ | refine Rt.tM ?_ | refine Rt.tC ?_ | refine Rt.tN ?_ | refine Rt.tA ?_ | refine Rt.tG ?_ | refine Rt.tF ?_ | refine Rt.os ?_ | refine Rt.clS ?_ | refine Rt.jmN ?_ | refine Rt.jbN ?_ | refine Rt.jbE ?_)) | ((with_reducible (first | apply Rt.ld0 | apply Rt.ld1 | apply Rt.ld2 | apply Rt.ld3 | apply Rt.ld4 | apply Rt.ld5)); first | assumption | exact Lc.kp (by assumption) (by assumption)) | ((with_reducible apply Rt.ol); first | assumption | exact cell_kp (by assumption) (by assumption)))); exact Rt.some' rfl))))
  refine Rt.cD (fun h => ?_) fun h => Rt.endB (by simp; omega) k1
  (repeat (first | (with_reducible (first | refine Rt.fin ?_ | refine Rt.tL ?_ | refine Rt.tI ?_ | refine Rt.tB ?_ | refine Rt.tS ?_ | refine Rt.tP ?_ | refine Rt.tD ?_ | refine Rt.tM ?_ | refine Rt.tC ?_ | refine Rt.tN ?_ | refine Rt.tA ?_ | refine Rt.tG ?_ | refine Rt.tF ?_ | refine Rt.os ?_ | refine Rt.clS ?_ | refine Rt.jmN ?_ | refine Rt.jbN ?_ | refine Rt.jbE ?_)) | ((with_reducible (first | apply Rt.ld0 | apply Rt.ld1 | apply Rt.ld2 | apply Rt.ld3 | apply Rt.ld4 | apply Rt.ld5)); first | assumption | exact Lc.kp (by assumption) (by assumption)) | ((with_reducible apply Rt.ol); first | assumption | exact cell_kp (by assumption) (by assumption)) | ((with_reducible apply Rt.ckR); focus ((repeat (first | (with_reducible (first | refine Rt.fin ?_ | refine Rt.tL ?_ | refine Rt.tI ?_ | refine Rt.tB ?_ | refine Rt.tS ?_ | refine Rt.tP ?_ | refine Rt.tD ?_ | refine Rt.tM ?_ | refine Rt.tC ?_ | refine Rt.tN ?_ | refine Rt.tA ?_ | refine Rt.tG ?_ | refine Rt.tF ?_ | refine Rt.os ?_ | refine Rt.clS ?_ | refine Rt.jmN ?_ | refine Rt.jbN ?_ | refine Rt.jbE ?_)) | ((with_reducible (first | apply Rt.ld0 | apply Rt.ld1 | apply Rt.ld2 | apply Rt.ld3 | apply Rt.ld4 | apply Rt.ld5)); first | assumption | exact Lc.kp (by assumption) (by assumption)) | ((with_reducible apply Rt.ol); first | assumption | exact cell_kp (by assumption) (by assumption)))); exact Rt.some' rfl))))
  refine Rt.cQ (fun h => Rt.endB (by simp; omega) k1) fun h => ?_
  (repeat (first | (with_reducible (first | refine Rt.fin ?_ | refine Rt.tL ?_ | refine Rt.tI ?_ | refine Rt.tB ?_ | refine Rt.tS ?_ | refine Rt.tP ?_ | refine Rt.tD ?_ | refine Rt.tM ?_ | refine Rt.tC ?_ | refine Rt.tN ?_ | refine Rt.tA ?_ | refine Rt.tG ?_ | refine Rt.tF ?_ | refine Rt.os ?_ | refine Rt.clS ?_ | refine Rt.jmN ?_ | refine Rt.jbN ?_ | refine Rt.jbE ?_)) | ((with_reducible (first | apply Rt.ld0 | apply Rt.ld1 | apply Rt.ld2 | apply Rt.ld3 | apply Rt.ld4 | apply Rt.ld5)); first | assumption | exact Lc.kp (by assumption) (by assumption)) | ((with_reducible apply Rt.ol); first | assumption | exact cell_kp (by assumption) (by assumption)) | ((with_reducible apply Rt.ckR); focus ((repeat (first | (with_reducible (first | refine Rt.fin ?_ | refine Rt.tL ?_ | refine Rt.tI ?_ | refine Rt.tB ?_ | refine Rt.tS ?_ | refine Rt.tP ?_ | refine Rt.tD ?_ | refine Rt.tM ?_ | refine Rt.tC ?_ | refine Rt.tN ?_ | refine Rt.tA ?_ | refine Rt.tG ?_ | refine Rt.tF ?_ | refine Rt.os ?_ | refine Rt.clS ?_ | refine Rt.jmN ?_ | refine Rt.jbN ?_ | refine Rt.jbE ?_)) | ((with_reducible (first | apply Rt.ld0 | apply Rt.ld1 | apply Rt.ld2 | apply Rt.ld3 | apply Rt.ld4 | apply Rt.ld5)); first | assumption | exact Lc.kp (by assumption) (by assumption)) | ((with_reducible apply Rt.ol); first | assumption | exact cell_kp (by assumption) (by assumption)))); exact Rt.some' rfl))))
  exact Rt.endB (by simp; omega) k1
theorem RRightE_spec {K V : Option Addr} {kl kc vl vc : Nat} (hx : EnV w K kl kc s0 k0 V vl vc x) : Rt (butteryref1_RightEntry n [ev K kl kc s0 k0 V vl vc] w) (RB (rightE x) w) := by
  have hl := hx.key.len
  have h1 := hx.seq
  have h2 := hx.kind
  have h3 := hx.val.len
  rw [butteryref1_RightEntry_eq]
  refine Rt.fin (Rt.al fun w1 l1 k1 _ => ?_)
  unfold rightE
  (repeat (first | (with_reducible (first | refine Rt.fin ?_ | refine Rt.tL ?_ | refine Rt.tI ?_ | refine Rt.tB ?_ | refine Rt.tS ?_ | refine Rt.tP ?_ | refine Rt.tD ?_ | refine Rt.tM ?_ | refine Rt.tC ?_ | refine Rt.tN ?_ | refine Rt.tA ?_ | refine Rt.tG ?_ | refine Rt.tF ?_ | refine Rt.os ?_ | refine Rt.clS ?_ | refine Rt.jmN ?_ | refine Rt.jbN ?_ | refine Rt.jbE ?_)) | ((with_reducible (first | apply Rt.ld0 | apply Rt.ld1 | apply Rt.ld2 | apply Rt.ld3 | apply Rt.ld4 | apply Rt.ld5)); first | assumption | exact Lc.kp (by assumption) (by assumption)) | ((with_reducible apply Rt.ol); first | assumption | exact cell_kp (by assumption) (by assumption)) | ((with_reducible apply Rt.ckR); focus ((repeat (first | (with_reducible (first | refine Rt.fin ?_ | refine Rt.tL ?_ | refine Rt.tI ?_ | refine Rt.tB ?_ | refine Rt.tS ?_ | refine Rt.tP ?_ | refine Rt.tD ?_ | refine Rt.tM ?_ | refine Rt.tC ?_ | refine Rt.tN ?_ | refine Rt.tA ?_ | refine Rt.tG ?_ | refine Rt.tF ?_ | refine Rt.os ?_ | refine Rt.clS ?_ | refine Rt.jmN ?_ | refine Rt.jbN ?_ | refine Rt.jbE ?_)) | ((with_reducible (first | apply Rt.ld0 | apply Rt.ld1 | apply Rt.ld2 | apply Rt.ld3 | apply Rt.ld4 | apply Rt.ld5)); first | assumption | exact Lc.kp (by assumption) (by assumption)) | ((with_reducible apply Rt.ol); first | assumption | exact cell_kp (by assumption) (by assumption)))); exact Rt.some' rfl))))
  refine Rt.cBo (RRightK_spec (hx.kp k1).kv) fun b w2 hb k2 => ?_
  have l2 := l1.kp k2
  have k12 := k1.tr k2
  refine Rt.cB (fun hbt => ?_) fun hbf => ?_
  · have hr := hb.1 hbt
    have hkd : x.kind = 0 ∨ x.kind = 1 := hr.2.2.2
    (repeat (first | (with_reducible (first | refine Rt.fin ?_ | refine Rt.tL ?_ | refine Rt.tI ?_ | refine Rt.tB ?_ | refine Rt.tS ?_ | refine Rt.tP ?_ | refine Rt.tD ?_ | refine Rt.tM ?_ | refine Rt.tC ?_ | refine Rt.tN ?_ | refine Rt.tA ?_ | refine Rt.tG ?_ | refine Rt.tF ?_ | refine Rt.os ?_ | refine Rt.clS ?_ | refine Rt.jmN ?_ | refine Rt.jbN ?_ | refine Rt.jbE ?_)) | ((with_reducible (first | apply Rt.ld0 | apply Rt.ld1 | apply Rt.ld2 | apply Rt.ld3 | apply Rt.ld4 | apply Rt.ld5)); first | assumption | exact Lc.kp (by assumption) (by assumption)) | ((with_reducible apply Rt.ol); first | assumption | exact cell_kp (by assumption) (by assumption)) | ((with_reducible apply Rt.ckR); focus ((repeat (first | (with_reducible (first | refine Rt.fin ?_ | refine Rt.tL ?_ | refine Rt.tI ?_ | refine Rt.tB ?_ | refine Rt.tS ?_ | refine Rt.tP ?_ | refine Rt.tD ?_ | refine Rt.tM ?_ | refine Rt.tC ?_ | refine Rt.tN ?_ | refine Rt.tA ?_ | refine Rt.tG ?_ | refine Rt.tF ?_ | refine Rt.os ?_ | refine Rt.clS ?_ | refine Rt.jmN ?_ | refine Rt.jbN ?_ | refine Rt.jbE ?_)) | ((with_reducible (first | apply Rt.ld0 | apply Rt.ld1 | apply Rt.ld2 | apply Rt.ld3 | apply Rt.ld4 | apply Rt.ld5)); first | assumption | exact Lc.kp (by assumption) (by assumption)) | ((with_reducible apply Rt.ol); first | assumption | exact cell_kp (by assumption) (by assumption)))); exact Rt.some' rfl))))
    refine Rt.cD (fun h => ?_) fun h => Rt.endB (by simp [hr]; omega) k12
    (repeat (first | (with_reducible (first | refine Rt.fin ?_ | refine Rt.tL ?_ | refine Rt.tI ?_ | refine Rt.tB ?_ | refine Rt.tS ?_ | refine Rt.tP ?_ | refine Rt.tD ?_ | refine Rt.tM ?_ | refine Rt.tC ?_ | refine Rt.tN ?_ | refine Rt.tA ?_ | refine Rt.tG ?_ | refine Rt.tF ?_ | refine Rt.os ?_ | refine Rt.clS ?_ | refine Rt.jmN ?_ | refine Rt.jbN ?_ | refine Rt.jbE ?_)) | ((with_reducible (first | apply Rt.ld0 | apply Rt.ld1 | apply Rt.ld2 | apply Rt.ld3 | apply Rt.ld4 | apply Rt.ld5)); first | assumption | exact Lc.kp (by assumption) (by assumption)) | ((with_reducible apply Rt.ol); first | assumption | exact cell_kp (by assumption) (by assumption)) | ((with_reducible apply Rt.ckR); focus ((repeat (first | (with_reducible (first | refine Rt.fin ?_ | refine Rt.tL ?_ | refine Rt.tI ?_ | refine Rt.tB ?_ | refine Rt.tS ?_ | refine Rt.tP ?_ | refine Rt.tD ?_ | refine Rt.tM ?_ | refine Rt.tC ?_ | refine Rt.tN ?_ | refine Rt.tA ?_ | refine Rt.tG ?_ | refine Rt.tF ?_ | refine Rt.os ?_ | refine Rt.clS ?_ | refine Rt.jmN ?_ | refine Rt.jbN ?_ | refine Rt.jbE ?_)) | ((with_reducible (first | apply Rt.ld0 | apply Rt.ld1 | apply Rt.ld2 | apply Rt.ld3 | apply Rt.ld4 | apply Rt.ld5)); first | assumption | exact Lc.kp (by assumption) (by assumption)) | ((with_reducible apply Rt.ol); first | assumption | exact cell_kp (by assumption) (by assumption)))); exact Rt.some' rfl))))
    refine Rt.cQ (fun h => Rt.endB (by simp [hr]; omega) k12) fun h => ?_
    (repeat (first | (with_reducible (first | refine Rt.fin ?_ | refine Rt.tL ?_ | refine Rt.tI ?_ | refine Rt.tB ?_ | refine Rt.tS ?_ | refine Rt.tP ?_ | refine Rt.tD ?_ | refine Rt.tM ?_ | refine Rt.tC ?_ | refine Rt.tN ?_ | refine Rt.tA ?_ | refine Rt.tG ?_ | refine Rt.tF ?_ | refine Rt.os ?_ | refine Rt.clS ?_ | refine Rt.jmN ?_ | refine Rt.jbN ?_ | refine Rt.jbE ?_)) | ((with_reducible (first | apply Rt.ld0 | apply Rt.ld1 | apply Rt.ld2 | apply Rt.ld3 | apply Rt.ld4 | apply Rt.ld5)); first | assumption | exact Lc.kp (by assumption) (by assumption)) | ((with_reducible apply Rt.ol); first | assumption | exact cell_kp (by assumption) (by assumption)) | ((with_reducible apply Rt.ckR); focus ((repeat (first | (with_reducible (first | refine Rt.fin ?_ | refine Rt.tL ?_ | refine Rt.tI ?_ | refine Rt.tB ?_ | refine Rt.tS ?_ | refine Rt.tP ?_ | refine Rt.tD ?_ | refine Rt.tM ?_ | refine Rt.tC ?_ | refine Rt.tN ?_ | refine Rt.tA ?_ | refine Rt.tG ?_ | refine Rt.tF ?_ | refine Rt.os ?_ | refine Rt.clS ?_ | refine Rt.jmN ?_ | refine Rt.jbN ?_ | refine Rt.jbE ?_)) | ((with_reducible (first | apply Rt.ld0 | apply Rt.ld1 | apply Rt.ld2 | apply Rt.ld3 | apply Rt.ld4 | apply Rt.ld5)); first | assumption | exact Lc.kp (by assumption) (by assumption)) | ((with_reducible apply Rt.ol); first | assumption | exact cell_kp (by assumption) (by assumption)))); exact Rt.some' rfl))))
    refine Rt.endB ?_ k12
    rw [beq_iff_eq]
    constructor
    · intro e; exact ⟨hr, by omega, fun _ => by omega⟩
    · rintro ⟨_, _, e⟩; have := e (by omega); omega
  · have : ¬ rightK x.k := fun h => by rw [hb.2 h] at hbf; cases hbf
    exact Rt.endB (by simp [this]) k12
end
end Go.Proofs.Ytoilmnplocfipaa.Sk
