/- A sorted buffer: what it tells. -/
import Derived.Test.YtoilmnplocfipaaS7
import Derived.Test.YtoilmnplocfipaaGS2
namespace Go.Proofs.Ytoilmnplocfipaa.Sk
open Go Big Go.RowKit Go.IntWalk Ik
set_option linter.unusedVariables false
set_option linter.unusedSimpArgs false
def zeroE : En := ⟨[], 0, 0, []⟩
def levelA (i : Int) (ks : List (En × Nat)) : List En := if 0 ≤ i ∧ i < 12 then (ks.filter fun y => decide (i.toNat < y.2)).map Prod.fst else []
def seekA (k : Key) (ks : List (En × Nat)) : Option En := (ks.dropWhile (belA k)).head?.map Prod.fst
def beforeA (k : Key) (ks : List (En × Nat)) : Option En := (ks.takeWhile (belA k)).getLast?.map Prod.fst
def getA (key : List Int) (seq : Int) (ks : List (En × Nat)) : Option En :=
  match seekA ⟨key, seq, 1⟩ ks with
  | some e => if e.key = key then some e else none
  | none => none
theorem bv_nil {k : IntKind} {w : World} : Bv k w none 0 0 [] := ⟨Sl.nil .., fun _ => ⟨rfl, rfl⟩, Nat.le_refl _, Nat.zero_le _, by simp⟩
theorem env_zero {w : World} : EnV w none 0 0 0 0 none 0 0 zeroE := ⟨bv_nil, rfl, rfl, by decide, by decide, bv_nil⟩
/-- An entry whose bytes are rows of the call's own. -/
structure EnO (w : World) (base : Nat) (A : Option Addr) (l c : Nat) (s k : Int) (B : Option Addr) (m d : Nat) (x : En) : Prop where
  oK : Own .u8 5 w base (.slice A l c) x.key
  oV : Own .u8 5 w base (.slice B m d) x.val
  rK : ∀ z ∈ x.key, (Lit.int .u8 z).wf = true
  rV : ∀ z ∈ x.val, (Lit.int .u8 z).wf = true
  seq : s = x.seq
  kind : k = x.kind
  rs : (Lit.int .u64 x.seq).wf = true
  rk : (Lit.int .i64 x.kind).wf = true
theorem EnO.env {w : World} {base : Nat} {A : Option Addr} {l c : Nat} {s k : Int} {B : Option Addr} {m d : Nat} {x : En} (h : EnO w base A l c s k B m d x) : EnV w A l c s k B m d x := ⟨h.oK.bv h.rK, h.seq, h.kind, h.rs, h.rk, h.oV.bv h.rV⟩
theorem EnO.gx {w w' : World} {base : Nat} {A : Option Addr} {l c : Nat} {s k : Int} {B : Option Addr} {m d : Nat} {x : En} {S : Nat → Prop} (h : EnO w base A l c s k B m d x) (hg : Gx S w w') (hn : ∀ j, S j → j < base) : EnO w' base A l c s k B m d x :=
  ⟨h.oK.gx hg fun j hj e => by have := (h.oK.lt j hj).1; have := hn j e; omega, h.oV.gx hg fun j hj e => by have := (h.oV.lt j hj).1; have := hn j e; omega, h.rK, h.rV, h.seq, h.kind, h.rs, h.rk⟩
theorem EnO.kp {w w' : World} {base : Nat} {A : Option Addr} {l c : Nat} {s k : Int} {B : Option Addr} {m d : Nat} {x : En} (h : EnO w base A l c s k B m d x) (hk : Kp w w') : EnO w' base A l c s k B m d x := h.gx (S := fun _ => False) hk.gx fun _ h => h.elim
theorem EnO.mono {w : World} {base base' : Nat} {A : Option Addr} {l c : Nat} {s k : Int} {B : Option Addr} {m d : Nat} {x : En} (h : EnO w base A l c s k B m d x) (hb : base' ≤ base) : EnO w base' A l c s k B m d x := ⟨h.oK.mono hb, h.oV.mono hb, h.rK, h.rV, h.seq, h.kind, h.rs, h.rk⟩
theorem eno_zero {w : World} {base : Nat} : EnO w base none 0 0 0 0 none 0 0 zeroE := ⟨Own.nil _ _, Own.nil _ _, (fun z h => by cases h), (fun z h => by cases h), rfl, rfl, by decide, by decide⟩
/-- An entry, and whether there is one. -/
def ROpt (o : Option En) (w0 : World) : List Value × World → Prop := fun r => ∃ A l c s k B m d w', r = ([Ik.ev A l c s k B m d, .bool o.isSome], w') ∧ EnO w' w0.heap.size A l c s k B m d (o.getD zeroE) ∧ Kp w0 w'
/-- Entries that are handed out. -/
def REv (xs : List En) (w0 : World) : List Value × World → Prop := fun r => ∃ B d w', r = ([.slice B xs.length d], w') ∧ Ev enEl w' B xs.length d xs ∧ Kp w0 w'
theorem lastI_get : ∀ (l : List Nat), lastI l = l.getLast?
  | [] => rfl
  | [x] => rfl
  | x :: y :: l => by
    have ih := lastI_get (y :: l)
    rw [List.getLast?_cons_cons]; exact ih
section
variable {α : Type} {Q : α → Prop} {n base b : Nat} {w w' w0 : World} {S T R : Nat → Prop} {s : St} {A B : Option Addr} {c l m d : Nat} {nv : List Nw} {ord : List Nat} {k : Key} {ks : List (En × Nat)} {x : En} {xs : List En} {o : Option En} {s0 k0 : Int}
theorem Rt.cOpt {x : Option (List Value × World)} (h : Rt x (ROpt o w0)) {f : List Value → World → Option α} (hf : ∀ A l c s k B m d w1, EnO w1 w0.heap.size A l c s k B m d (o.getD zeroE) → Kp w0 w1 → Rt (f [Ik.ev A l c s k B m d, .bool o.isSome] w1) Q) : Rt (Big.cl x f) Q := by
  obtain ⟨_, rfl, A, l, c, s, k, B, m, d, w1, rfl, hv, k1⟩ := h
  exact hf A l c s k B m d w1 hv k1
theorem Rt.cEv {x : Option (List Value × World)} (h : Rt x (REv xs w0)) {f : Option Addr → Nat → Nat → World → Option α} (hf : ∀ B d w1, Ev enEl w1 B xs.length d xs → Kp w0 w1 → Rt (f B xs.length d w1) Q) :
    Rt (Big.cl x fun vs w => Big.tC vs fun u cs => Big.tL u fun A l c => Big.tN cs (f A l c w)) Q := by
  obtain ⟨_, rfl, B, d, w1, rfl, o, k1⟩ := h
  exact hf B d w1 o k1
theorem rb_of (hr : ∀ y ∈ x.key, (Lit.int .u8 y).wf = true) : True := trivial
theorem en_of (h : Sk w base b S s) {q : Nat} {y : Nd} (hy : s.nodes[q]? = some y) : (∀ z ∈ y.e.key, (Lit.int .u8 z).wf = true) ∧ (∀ z ∈ y.e.val, (Lit.int .u8 z).wf = true) ∧ (Lit.int .u64 y.e.seq).wf = true ∧ (Lit.int .i64 y.e.kind).wf = true := by
  obtain ⟨R, A, c, nv, hV, _⟩ := h
  obtain ⟨v, hv, hd⟩ := hV.has hy
  have := hd.ent.out
  exact ⟨this.key.rng, this.val.rng, this.rs, this.rk⟩
theorem told_spec (h : Sk w base b S s) {a : Option Nat} (ha : ∀ q, a = some q → ∃ y, s.nodes[q]? = some y ∧ y.e.key.length ≤ 2 ^ 38 ∧ y.e.val.length ≤ 2 ^ 38) : Rt (skip_List_told n [pt b, .int .i64 (en a)] w) (ROpt (a.bind fun q => (s.nodes[q]?).map (·.e)) w) := by
  rw [skip_List_told_eq]
  refine Rt.fin (Rt.al fun w1 l1 k1 s1 => Rt.cQ (fun hn => ?_) fun hn => ?_)
  · have hn := en_none.1 hn
    subst hn
    refine Rt.st0 l1 fun w2 l2 g2 => Rt.st1 l2 fun w3 l3 g3 => Rt.st2 l3 fun w4 l4 g4 => Rt.st3 l4 fun w5 l5 g5 => ?_
    (repeat (first | (with_reducible (first | refine Rt.fin ?_ | refine Rt.tL ?_ | refine Rt.tI ?_ | refine Rt.tB ?_ | refine Rt.tS ?_ | refine Rt.tP ?_ | refine Rt.tD ?_ | refine Rt.tM ?_ | refine Rt.tC ?_ | refine Rt.tN ?_ | refine Rt.tA ?_ | refine Rt.tG ?_ | refine Rt.tF ?_ | refine Rt.os ?_ | refine Rt.clS ?_ | refine Rt.jmN ?_ | refine Rt.jbN ?_ | refine Rt.jbE ?_)) | ((with_reducible (first | apply Rt.ld0 | apply Rt.ld1 | apply Rt.ld2 | apply Rt.ld3 | apply Rt.ld4 | apply Rt.ld5)); first | assumption | exact Lc.kp (by assumption) (by assumption)) | ((with_reducible apply Rt.ol); first | assumption | exact cell_kp (by assumption) (by assumption)) | ((with_reducible apply Rt.ckR); focus ((repeat (first | (with_reducible (first | refine Rt.fin ?_ | refine Rt.tL ?_ | refine Rt.tI ?_ | refine Rt.tB ?_ | refine Rt.tS ?_ | refine Rt.tP ?_ | refine Rt.tD ?_ | refine Rt.tM ?_ | refine Rt.tC ?_ | refine Rt.tN ?_ | refine Rt.tA ?_ | refine Rt.tG ?_ | refine Rt.tF ?_ | refine Rt.os ?_ | refine Rt.clS ?_ | refine Rt.jmN ?_ | refine Rt.jbN ?_ | refine Rt.jbE ?_)) | ((with_reducible (first | apply Rt.ld0 | apply Rt.ld1 | apply Rt.ld2 | apply Rt.ld3 | apply Rt.ld4 | apply Rt.ld5)); first | assumption | exact Lc.kp (by assumption) (by assumption)) | ((with_reducible apply Rt.ol); first | assumption | exact cell_kp (by assumption) (by assumption)))); exact Rt.some' rfl))))
    exact Rt.some' ⟨rfl, _, _, _, _, _, _, _, _, w5, rfl, eno_zero, k1.tx (((g2.tr g3).tr g4).tr g5) fun j hj => by omega⟩
  · cases a with
    | none => exact absurd rfl hn
    | some q =>
      obtain ⟨y, hy, h1, h2⟩ := ha q rfl
      obtain ⟨R, A, c, nv, hV, _⟩ := h.kp k1
      have hF := hV.fst
      refine Rt.os (Rt.ldn hV.lc (blk_12 s _ _ _ hF) (Rt.tL (Rt.ixNd hV hy fun a v hv hd c0 c1 c2 c3 c4 => ?_)))
      have he := hd.ent.out
      have hkl := he.key.len
      have hvl := he.val.len
      (repeat (first | (with_reducible (first | refine Rt.fin ?_ | refine Rt.tL ?_ | refine Rt.tI ?_ | refine Rt.tB ?_ | refine Rt.tS ?_ | refine Rt.tP ?_ | refine Rt.tD ?_ | refine Rt.tM ?_ | refine Rt.tC ?_ | refine Rt.tN ?_ | refine Rt.tA ?_ | refine Rt.tG ?_ | refine Rt.tF ?_ | refine Rt.os ?_ | refine Rt.clS ?_ | refine Rt.jmN ?_ | refine Rt.jbN ?_ | refine Rt.jbE ?_)) | ((with_reducible (first | apply Rt.ld0 | apply Rt.ld1 | apply Rt.ld2 | apply Rt.ld3 | apply Rt.ld4 | apply Rt.ld5)); first | assumption | exact Lc.kp (by assumption) (by assumption)) | ((with_reducible apply Rt.ol); first | assumption | exact cell_kp (by assumption) (by assumption)) | ((with_reducible apply Rt.ckR); focus ((repeat (first | (with_reducible (first | refine Rt.fin ?_ | refine Rt.tL ?_ | refine Rt.tI ?_ | refine Rt.tB ?_ | refine Rt.tS ?_ | refine Rt.tP ?_ | refine Rt.tD ?_ | refine Rt.tM ?_ | refine Rt.tC ?_ | refine Rt.tN ?_ | refine Rt.tA ?_ | refine Rt.tG ?_ | refine Rt.tF ?_ | refine Rt.os ?_ | refine Rt.clS ?_ | refine Rt.jmN ?_ | refine Rt.jbN ?_ | refine Rt.jbE ?_)) | ((with_reducible (first | apply Rt.ld0 | apply Rt.ld1 | apply Rt.ld2 | apply Rt.ld3 | apply Rt.ld4 | apply Rt.ld5)); first | assumption | exact Lc.kp (by assumption) (by assumption)) | ((with_reducible apply Rt.ol); first | assumption | exact cell_kp (by assumption) (by assumption)))); exact Rt.some' rfl))))
      refine Rt.cEn (own_spec he (by omega) (by omega)) fun A3 c3 B3 d3 w3 o3 p3 k3 => ?_
      (repeat (first | (with_reducible (first | refine Rt.fin ?_ | refine Rt.tL ?_ | refine Rt.tI ?_ | refine Rt.tB ?_ | refine Rt.tS ?_ | refine Rt.tP ?_ | refine Rt.tD ?_ | refine Rt.tM ?_ | refine Rt.tC ?_ | refine Rt.tN ?_ | refine Rt.tA ?_ | refine Rt.tG ?_ | refine Rt.tF ?_ | refine Rt.os ?_ | refine Rt.clS ?_ | refine Rt.jmN ?_ | refine Rt.jbN ?_ | refine Rt.jbE ?_)) | ((with_reducible (first | apply Rt.ld0 | apply Rt.ld1 | apply Rt.ld2 | apply Rt.ld3 | apply Rt.ld4 | apply Rt.ld5)); first | assumption | exact Lc.kp (by assumption) (by assumption)) | ((with_reducible apply Rt.ol); first | assumption | exact cell_kp (by assumption) (by assumption)) | ((with_reducible apply Rt.ckR); focus ((repeat (first | (with_reducible (first | refine Rt.fin ?_ | refine Rt.tL ?_ | refine Rt.tI ?_ | refine Rt.tB ?_ | refine Rt.tS ?_ | refine Rt.tP ?_ | refine Rt.tD ?_ | refine Rt.tM ?_ | refine Rt.tC ?_ | refine Rt.tN ?_ | refine Rt.tA ?_ | refine Rt.tG ?_ | refine Rt.tF ?_ | refine Rt.os ?_ | refine Rt.clS ?_ | refine Rt.jmN ?_ | refine Rt.jbN ?_ | refine Rt.jbE ?_)) | ((with_reducible (first | apply Rt.ld0 | apply Rt.ld1 | apply Rt.ld2 | apply Rt.ld3 | apply Rt.ld4 | apply Rt.ld5)); first | assumption | exact Lc.kp (by assumption) (by assumption)) | ((with_reducible apply Rt.ol); first | assumption | exact cell_kp (by assumption) (by assumption)))); exact Rt.some' rfl))))
      refine Rt.st0 (l1.kp k3) fun w4 l4 g4 => Rt.st1 l4 fun w5 l5 g5 => Rt.st2 l5 fun w6 l6 g6 => Rt.st3 l6 fun w7 l7 g7 => ?_
      (repeat (first | (with_reducible (first | refine Rt.fin ?_ | refine Rt.tL ?_ | refine Rt.tI ?_ | refine Rt.tB ?_ | refine Rt.tS ?_ | refine Rt.tP ?_ | refine Rt.tD ?_ | refine Rt.tM ?_ | refine Rt.tC ?_ | refine Rt.tN ?_ | refine Rt.tA ?_ | refine Rt.tG ?_ | refine Rt.tF ?_ | refine Rt.os ?_ | refine Rt.clS ?_ | refine Rt.jmN ?_ | refine Rt.jbN ?_ | refine Rt.jbE ?_)) | ((with_reducible (first | apply Rt.ld0 | apply Rt.ld1 | apply Rt.ld2 | apply Rt.ld3 | apply Rt.ld4 | apply Rt.ld5)); first | assumption | exact Lc.kp (by assumption) (by assumption)) | ((with_reducible apply Rt.ol); first | assumption | exact cell_kp (by assumption) (by assumption)) | ((with_reducible apply Rt.ckR); focus ((repeat (first | (with_reducible (first | refine Rt.fin ?_ | refine Rt.tL ?_ | refine Rt.tI ?_ | refine Rt.tB ?_ | refine Rt.tS ?_ | refine Rt.tP ?_ | refine Rt.tD ?_ | refine Rt.tM ?_ | refine Rt.tC ?_ | refine Rt.tN ?_ | refine Rt.tA ?_ | refine Rt.tG ?_ | refine Rt.tF ?_ | refine Rt.os ?_ | refine Rt.clS ?_ | refine Rt.jmN ?_ | refine Rt.jbN ?_ | refine Rt.jbE ?_)) | ((with_reducible (first | apply Rt.ld0 | apply Rt.ld1 | apply Rt.ld2 | apply Rt.ld3 | apply Rt.ld4 | apply Rt.ld5)); first | assumption | exact Lc.kp (by assumption) (by assumption)) | ((with_reducible apply Rt.ol); first | assumption | exact cell_kp (by assumption) (by assumption)))); exact Rt.some' rfl))))
      have g := ((g4.tr g5).tr g6).tr g7
      have e : ((some q).bind fun q => (s.nodes[q]?).map (·.e)) = some y.e := by simp [hy]
      rw [e]
      exact Rt.some' ⟨rfl, _, _, _, _, _, _, _, _, w7, rfl, ⟨(o3.gx g fun j hj e => by have := (o3.lt j hj).1; omega).mono (by omega), (p3.gx g fun j hj e => by have := (p3.lt j hj).1; omega).mono (by omega), he.key.rng, he.val.rng, rfl, rfl, he.rs, he.rk⟩, (k1.tr k3).tx g fun j hj => by omega⟩
theorem ok_len (hok : ∀ y ∈ ks, rightE y.1 ∧ 1 ≤ y.2 ∧ y.2 ≤ 12) (hi : Inv s ord) (hks : ks = ord.map (prA s)) {q : Nat} (hq : q ∈ ord) : ∃ y, s.nodes[q]? = some y ∧ y.e.key.length ≤ 256 ∧ y.e.val.length ≤ 4096 := by
  obtain ⟨y, h1, h2, _⟩ := prA_at hi hq
  have := (hok _ (by rw [hks]; exact List.mem_map.2 ⟨q, hq, rfl⟩)).1
  rw [h2] at this
  exact ⟨y, h1, this.1.2.1, this.2.1⟩
theorem head_map {l : List Nat} (hi : Inv s ord) (hl : ∀ i ∈ l, i ∈ ord) : ((hd l).bind fun q => (s.nodes[q]?).map (·.e)) = ((l.map (prA s)).head?).map Prod.fst := by
  cases l with
  | nil => rfl
  | cons i t =>
    obtain ⟨y, h1, h2, _⟩ := prA_at hi (hl i List.mem_cons_self)
    simp [hd, h1, h2]
theorem last_map {l : List Nat} (hi : Inv s ord) (hl : ∀ i ∈ l, i ∈ ord) : ((lastI l).bind fun q => (s.nodes[q]?).map (·.e)) = ((l.map (prA s)).getLast?).map Prod.fst := by
  rw [lastI_get, List.getLast?_map]
  cases hg : l.getLast? with
  | none => rfl
  | some i =>
    obtain ⟨y, h1, h2, _⟩ := prA_at hi (hl i (List.mem_of_getLast? hg))
    simp [h1, h2]
theorem Seek_spec (h : SkA w base b S ks) (hk : KeyV w A l c s0 k0 k) (hn : 2 ^ 60 < n) (hN : ks.length ≤ 2 ^ 30) : Rt (skip_List_Seek n [pt b, kv A l c s0 k0] w) (ROpt (seekA k ks) w) := by
  obtain ⟨⟨s, ord, hS, hi, hks, hby⟩, hok⟩ := h
  have hlen : s.nodes.length ≤ 2 ^ 30 := by rw [← hi.len]; rw [hks, List.length_map] at hN; omega
  rw [skip_List_Seek_eq]
  refine Rt.fin (Rt.al fun w1 l1 k1 s1 => Rt.al fun w2 l2 k2 s2 => ?_)
  have l12 := l1.kp k2
  have k12 := k1.tr k2
  (repeat (first | (with_reducible (first | refine Rt.fin ?_ | refine Rt.tL ?_ | refine Rt.tI ?_ | refine Rt.tB ?_ | refine Rt.tS ?_ | refine Rt.tP ?_ | refine Rt.tD ?_ | refine Rt.tM ?_ | refine Rt.tC ?_ | refine Rt.tN ?_ | refine Rt.tA ?_ | refine Rt.tG ?_ | refine Rt.tF ?_ | refine Rt.os ?_ | refine Rt.clS ?_ | refine Rt.jmN ?_ | refine Rt.jbN ?_ | refine Rt.jbE ?_)) | ((with_reducible (first | apply Rt.ld0 | apply Rt.ld1 | apply Rt.ld2 | apply Rt.ld3 | apply Rt.ld4 | apply Rt.ld5)); first | assumption | exact Lc.kp (by assumption) (by assumption)) | ((with_reducible apply Rt.ol); first | assumption | exact cell_kp (by assumption) (by assumption)) | ((with_reducible apply Rt.ckR); focus ((repeat (first | (with_reducible (first | refine Rt.fin ?_ | refine Rt.tL ?_ | refine Rt.tI ?_ | refine Rt.tB ?_ | refine Rt.tS ?_ | refine Rt.tP ?_ | refine Rt.tD ?_ | refine Rt.tM ?_ | refine Rt.tC ?_ | refine Rt.tN ?_ | refine Rt.tA ?_ | refine Rt.tG ?_ | refine Rt.tF ?_ | refine Rt.os ?_ | refine Rt.clS ?_ | refine Rt.jmN ?_ | refine Rt.jbN ?_ | refine Rt.jbE ?_)) | ((with_reducible (first | apply Rt.ld0 | apply Rt.ld1 | apply Rt.ld2 | apply Rt.ld3 | apply Rt.ld4 | apply Rt.ld5)); first | assumption | exact Lc.kp (by assumption) (by assumption)) | ((with_reducible apply Rt.ol); first | assumption | exact cell_kp (by assumption) (by assumption)))); exact Rt.some' rfl))))
  obtain ⟨_, e, w3, rfl, k3⟩ := path_spec (n := n) (hS.kp k12) hi (hk.kp k12) (by omega) hlen
  refine Rt.cl e ?_
  unfold v12
  (repeat (first | (with_reducible (first | refine Rt.fin ?_ | refine Rt.tL ?_ | refine Rt.tI ?_ | refine Rt.tB ?_ | refine Rt.tS ?_ | refine Rt.tP ?_ | refine Rt.tD ?_ | refine Rt.tM ?_ | refine Rt.tC ?_ | refine Rt.tN ?_ | refine Rt.tA ?_ | refine Rt.tG ?_ | refine Rt.tF ?_ | refine Rt.os ?_ | refine Rt.clS ?_ | refine Rt.jmN ?_ | refine Rt.jbN ?_ | refine Rt.jbE ?_)) | ((with_reducible (first | apply Rt.ld0 | apply Rt.ld1 | apply Rt.ld2 | apply Rt.ld3 | apply Rt.ld4 | apply Rt.ld5)); first | assumption | exact Lc.kp (by assumption) (by assumption)) | ((with_reducible apply Rt.ol); first | assumption | exact cell_kp (by assumption) (by assumption)) | ((with_reducible apply Rt.ckR); focus ((repeat (first | (with_reducible (first | refine Rt.fin ?_ | refine Rt.tL ?_ | refine Rt.tI ?_ | refine Rt.tB ?_ | refine Rt.tS ?_ | refine Rt.tP ?_ | refine Rt.tD ?_ | refine Rt.tM ?_ | refine Rt.tC ?_ | refine Rt.tN ?_ | refine Rt.tA ?_ | refine Rt.tG ?_ | refine Rt.tF ?_ | refine Rt.os ?_ | refine Rt.clS ?_ | refine Rt.jmN ?_ | refine Rt.jbN ?_ | refine Rt.jbE ?_)) | ((with_reducible (first | apply Rt.ld0 | apply Rt.ld1 | apply Rt.ld2 | apply Rt.ld3 | apply Rt.ld4 | apply Rt.ld5)); first | assumption | exact Lc.kp (by assumption) (by assumption)) | ((with_reducible apply Rt.ol); first | assumption | exact cell_kp (by assumption) (by assumption)))); exact Rt.some' rfl))))
  have k13 := k12.tr k3
  have hL0 := hi.lnk 0 (by decide)
  rw [← List.takeWhile_append_dropWhile (p := bel s k) (l := chain s ord 0)] at hL0
  have haft := hL0.behind.hd
  obtain ⟨_, e, rfl⟩ := after_spec (n := n) (j := 0) (hS.kp k13) haft (by decide)
  refine Rt.cl e ?_
  (repeat (first | (with_reducible (first | refine Rt.fin ?_ | refine Rt.tL ?_ | refine Rt.tI ?_ | refine Rt.tB ?_ | refine Rt.tS ?_ | refine Rt.tP ?_ | refine Rt.tD ?_ | refine Rt.tM ?_ | refine Rt.tC ?_ | refine Rt.tN ?_ | refine Rt.tA ?_ | refine Rt.tG ?_ | refine Rt.tF ?_ | refine Rt.os ?_ | refine Rt.clS ?_ | refine Rt.jmN ?_ | refine Rt.jbN ?_ | refine Rt.jbE ?_)) | ((with_reducible (first | apply Rt.ld0 | apply Rt.ld1 | apply Rt.ld2 | apply Rt.ld3 | apply Rt.ld4 | apply Rt.ld5)); first | assumption | exact Lc.kp (by assumption) (by assumption)) | ((with_reducible apply Rt.ol); first | assumption | exact cell_kp (by assumption) (by assumption)) | ((with_reducible apply Rt.ckR); focus ((repeat (first | (with_reducible (first | refine Rt.fin ?_ | refine Rt.tL ?_ | refine Rt.tI ?_ | refine Rt.tB ?_ | refine Rt.tS ?_ | refine Rt.tP ?_ | refine Rt.tD ?_ | refine Rt.tM ?_ | refine Rt.tC ?_ | refine Rt.tN ?_ | refine Rt.tA ?_ | refine Rt.tG ?_ | refine Rt.tF ?_ | refine Rt.os ?_ | refine Rt.clS ?_ | refine Rt.jmN ?_ | refine Rt.jbN ?_ | refine Rt.jbE ?_)) | ((with_reducible (first | apply Rt.ld0 | apply Rt.ld1 | apply Rt.ld2 | apply Rt.ld3 | apply Rt.ld4 | apply Rt.ld5)); first | assumption | exact Lc.kp (by assumption) (by assumption)) | ((with_reducible apply Rt.ol); first | assumption | exact cell_kp (by assumption) (by assumption)))); exact Rt.some' rfl))))
  rw [chain_0 hi]
  have hsub : ∀ i ∈ ord.dropWhile (bel s k), i ∈ ord := (List.dropWhile_sublist _).subset
  have htw := tw_map (l := ord) (f := prA s) (p := bel s k) (q := belA k) fun i hio => bel_belA hi hio
  have hres : ((hd (ord.dropWhile (bel s k))).bind fun q => (s.nodes[q]?).map (·.e)) = seekA k ks := by rw [head_map hi hsub, seekA, hks, htw.2]
  refine Rt.cOpt (told_spec (n := n) (hS.kp k13) (a := hd (ord.dropWhile (bel s k))) fun q hq => ?_) fun A1 l1' c1 s1' k1' B1 m1 d1 w4 hv k4 => ?_
  · cases hdw : ord.dropWhile (bel s k) with
    | nil => rw [hdw] at hq; cases hq
    | cons i t =>
      rw [hdw] at hq
      injection hq with hq
      subst hq
      obtain ⟨y, h1, h2, h3⟩ := ok_len hok hi hks (hsub i (by rw [hdw]; exact List.mem_cons_self))
      exact ⟨y, h1, by omega, by omega⟩
  · rw [hres] at hv ⊢
    (repeat (first | (with_reducible (first | refine Rt.fin ?_ | refine Rt.tL ?_ | refine Rt.tI ?_ | refine Rt.tB ?_ | refine Rt.tS ?_ | refine Rt.tP ?_ | refine Rt.tD ?_ | refine Rt.tM ?_ | refine Rt.tC ?_ | refine Rt.tN ?_ | refine Rt.tA ?_ | refine Rt.tG ?_ | refine Rt.tF ?_ | refine Rt.os ?_ | refine Rt.clS ?_ | refine Rt.jmN ?_ | refine Rt.jbN ?_ | refine Rt.jbE ?_)) | ((with_reducible (first | apply Rt.ld0 | apply Rt.ld1 | apply Rt.ld2 | apply Rt.ld3 | apply Rt.ld4 | apply Rt.ld5)); first | assumption | exact Lc.kp (by assumption) (by assumption)) | ((with_reducible apply Rt.ol); first | assumption | exact cell_kp (by assumption) (by assumption)) | ((with_reducible apply Rt.ckR); focus ((repeat (first | (with_reducible (first | refine Rt.fin ?_ | refine Rt.tL ?_ | refine Rt.tI ?_ | refine Rt.tB ?_ | refine Rt.tS ?_ | refine Rt.tP ?_ | refine Rt.tD ?_ | refine Rt.tM ?_ | refine Rt.tC ?_ | refine Rt.tN ?_ | refine Rt.tA ?_ | refine Rt.tG ?_ | refine Rt.tF ?_ | refine Rt.os ?_ | refine Rt.clS ?_ | refine Rt.jmN ?_ | refine Rt.jbN ?_ | refine Rt.jbE ?_)) | ((with_reducible (first | apply Rt.ld0 | apply Rt.ld1 | apply Rt.ld2 | apply Rt.ld3 | apply Rt.ld4 | apply Rt.ld5)); first | assumption | exact Lc.kp (by assumption) (by assumption)) | ((with_reducible apply Rt.ol); first | assumption | exact cell_kp (by assumption) (by assumption)))); exact Rt.some' rfl))))
    have k24 := k3.tr k4
    refine Rt.st0 (l2.kp k24) fun w5 l5 g5 => Rt.st1 l5 fun w6 l6 g6 => Rt.st2 l6 fun w7 l7 g7 => Rt.st3 l7 fun w8 l8 g8 => ?_
    (repeat (first | (with_reducible (first | refine Rt.fin ?_ | refine Rt.tL ?_ | refine Rt.tI ?_ | refine Rt.tB ?_ | refine Rt.tS ?_ | refine Rt.tP ?_ | refine Rt.tD ?_ | refine Rt.tM ?_ | refine Rt.tC ?_ | refine Rt.tN ?_ | refine Rt.tA ?_ | refine Rt.tG ?_ | refine Rt.tF ?_ | refine Rt.os ?_ | refine Rt.clS ?_ | refine Rt.jmN ?_ | refine Rt.jbN ?_ | refine Rt.jbE ?_)) | ((with_reducible (first | apply Rt.ld0 | apply Rt.ld1 | apply Rt.ld2 | apply Rt.ld3 | apply Rt.ld4 | apply Rt.ld5)); first | assumption | exact Lc.kp (by assumption) (by assumption)) | ((with_reducible apply Rt.ol); first | assumption | exact cell_kp (by assumption) (by assumption)) | ((with_reducible apply Rt.ckR); focus ((repeat (first | (with_reducible (first | refine Rt.fin ?_ | refine Rt.tL ?_ | refine Rt.tI ?_ | refine Rt.tB ?_ | refine Rt.tS ?_ | refine Rt.tP ?_ | refine Rt.tD ?_ | refine Rt.tM ?_ | refine Rt.tC ?_ | refine Rt.tN ?_ | refine Rt.tA ?_ | refine Rt.tG ?_ | refine Rt.tF ?_ | refine Rt.os ?_ | refine Rt.clS ?_ | refine Rt.jmN ?_ | refine Rt.jbN ?_ | refine Rt.jbE ?_)) | ((with_reducible (first | apply Rt.ld0 | apply Rt.ld1 | apply Rt.ld2 | apply Rt.ld3 | apply Rt.ld4 | apply Rt.ld5)); first | assumption | exact Lc.kp (by assumption) (by assumption)) | ((with_reducible apply Rt.ol); first | assumption | exact cell_kp (by assumption) (by assumption)))); exact Rt.some' rfl))))
    have g := ((g5.tr g6).tr g7).tr g8
    have hs3 := k3.size
    exact Rt.some' ⟨rfl, _, _, _, _, _, _, _, _, w8, rfl, (hv.gx g fun j hj => by omega).mono (by have := k13.size; omega), (k13.tr k4).tx g fun j hj => by have := k1.size; omega⟩
theorem Before_spec (h : SkA w base b S ks) (hk : KeyV w A l c s0 k0 k) (hn : 2 ^ 60 < n) (hN : ks.length ≤ 2 ^ 30) : Rt (skip_List_Before n [pt b, kv A l c s0 k0] w) (ROpt (beforeA k ks) w) := by
  obtain ⟨⟨s, ord, hS, hi, hks, hby⟩, hok⟩ := h
  have hlen : s.nodes.length ≤ 2 ^ 30 := by rw [← hi.len]; rw [hks, List.length_map] at hN; omega
  rw [skip_List_Before_eq]
  refine Rt.fin (Rt.al fun w1 l1 k1 s1 => Rt.al fun w2 l2 k2 s2 => ?_)
  have l12 := l1.kp k2
  have k12 := k1.tr k2
  (repeat (first | (with_reducible (first | refine Rt.fin ?_ | refine Rt.tL ?_ | refine Rt.tI ?_ | refine Rt.tB ?_ | refine Rt.tS ?_ | refine Rt.tP ?_ | refine Rt.tD ?_ | refine Rt.tM ?_ | refine Rt.tC ?_ | refine Rt.tN ?_ | refine Rt.tA ?_ | refine Rt.tG ?_ | refine Rt.tF ?_ | refine Rt.os ?_ | refine Rt.clS ?_ | refine Rt.jmN ?_ | refine Rt.jbN ?_ | refine Rt.jbE ?_)) | ((with_reducible (first | apply Rt.ld0 | apply Rt.ld1 | apply Rt.ld2 | apply Rt.ld3 | apply Rt.ld4 | apply Rt.ld5)); first | assumption | exact Lc.kp (by assumption) (by assumption)) | ((with_reducible apply Rt.ol); first | assumption | exact cell_kp (by assumption) (by assumption)) | ((with_reducible apply Rt.ckR); focus ((repeat (first | (with_reducible (first | refine Rt.fin ?_ | refine Rt.tL ?_ | refine Rt.tI ?_ | refine Rt.tB ?_ | refine Rt.tS ?_ | refine Rt.tP ?_ | refine Rt.tD ?_ | refine Rt.tM ?_ | refine Rt.tC ?_ | refine Rt.tN ?_ | refine Rt.tA ?_ | refine Rt.tG ?_ | refine Rt.tF ?_ | refine Rt.os ?_ | refine Rt.clS ?_ | refine Rt.jmN ?_ | refine Rt.jbN ?_ | refine Rt.jbE ?_)) | ((with_reducible (first | apply Rt.ld0 | apply Rt.ld1 | apply Rt.ld2 | apply Rt.ld3 | apply Rt.ld4 | apply Rt.ld5)); first | assumption | exact Lc.kp (by assumption) (by assumption)) | ((with_reducible apply Rt.ol); first | assumption | exact cell_kp (by assumption) (by assumption)))); exact Rt.some' rfl))))
  obtain ⟨_, e, w3, rfl, k3⟩ := path_spec (n := n) (hS.kp k12) hi (hk.kp k12) (by omega) hlen
  refine Rt.cl e ?_
  unfold v12
  (repeat (first | (with_reducible (first | refine Rt.fin ?_ | refine Rt.tL ?_ | refine Rt.tI ?_ | refine Rt.tB ?_ | refine Rt.tS ?_ | refine Rt.tP ?_ | refine Rt.tD ?_ | refine Rt.tM ?_ | refine Rt.tC ?_ | refine Rt.tN ?_ | refine Rt.tA ?_ | refine Rt.tG ?_ | refine Rt.tF ?_ | refine Rt.os ?_ | refine Rt.clS ?_ | refine Rt.jmN ?_ | refine Rt.jbN ?_ | refine Rt.jbE ?_)) | ((with_reducible (first | apply Rt.ld0 | apply Rt.ld1 | apply Rt.ld2 | apply Rt.ld3 | apply Rt.ld4 | apply Rt.ld5)); first | assumption | exact Lc.kp (by assumption) (by assumption)) | ((with_reducible apply Rt.ol); first | assumption | exact cell_kp (by assumption) (by assumption)) | ((with_reducible apply Rt.ckR); focus ((repeat (first | (with_reducible (first | refine Rt.fin ?_ | refine Rt.tL ?_ | refine Rt.tI ?_ | refine Rt.tB ?_ | refine Rt.tS ?_ | refine Rt.tP ?_ | refine Rt.tD ?_ | refine Rt.tM ?_ | refine Rt.tC ?_ | refine Rt.tN ?_ | refine Rt.tA ?_ | refine Rt.tG ?_ | refine Rt.tF ?_ | refine Rt.os ?_ | refine Rt.clS ?_ | refine Rt.jmN ?_ | refine Rt.jbN ?_ | refine Rt.jbE ?_)) | ((with_reducible (first | apply Rt.ld0 | apply Rt.ld1 | apply Rt.ld2 | apply Rt.ld3 | apply Rt.ld4 | apply Rt.ld5)); first | assumption | exact Lc.kp (by assumption) (by assumption)) | ((with_reducible apply Rt.ol); first | assumption | exact cell_kp (by assumption) (by assumption)))); exact Rt.some' rfl))))
  have k13 := k12.tr k3
  have hp0 : pth s ord k 0 = lastI (ord.takeWhile (bel s k)) := by rw [pth, chain_0 hi]
  dsimp only
  rw [hp0]
  have hsub : ∀ i ∈ ord.takeWhile (bel s k), i ∈ ord := (List.takeWhile_sublist _).subset
  have htw := tw_map (l := ord) (f := prA s) (p := bel s k) (q := belA k) fun i hio => bel_belA hi hio
  have hres : ((lastI (ord.takeWhile (bel s k))).bind fun q => (s.nodes[q]?).map (·.e)) = beforeA k ks := by rw [last_map hi hsub, beforeA, hks, htw.1]
  refine Rt.cOpt (told_spec (n := n) (hS.kp k13) (a := lastI (ord.takeWhile (bel s k))) fun q hq => ?_) fun A1 l1' c1 s1' k1' B1 m1 d1 w4 hv k4 => ?_
  · rw [lastI_get] at hq
    obtain ⟨y, h1, h2, h3⟩ := ok_len hok hi hks (hsub q (List.mem_of_getLast? hq))
    exact ⟨y, h1, by omega, by omega⟩
  · rw [hres] at hv ⊢
    (repeat (first | (with_reducible (first | refine Rt.fin ?_ | refine Rt.tL ?_ | refine Rt.tI ?_ | refine Rt.tB ?_ | refine Rt.tS ?_ | refine Rt.tP ?_ | refine Rt.tD ?_ | refine Rt.tM ?_ | refine Rt.tC ?_ | refine Rt.tN ?_ | refine Rt.tA ?_ | refine Rt.tG ?_ | refine Rt.tF ?_ | refine Rt.os ?_ | refine Rt.clS ?_ | refine Rt.jmN ?_ | refine Rt.jbN ?_ | refine Rt.jbE ?_)) | ((with_reducible (first | apply Rt.ld0 | apply Rt.ld1 | apply Rt.ld2 | apply Rt.ld3 | apply Rt.ld4 | apply Rt.ld5)); first | assumption | exact Lc.kp (by assumption) (by assumption)) | ((with_reducible apply Rt.ol); first | assumption | exact cell_kp (by assumption) (by assumption)) | ((with_reducible apply Rt.ckR); focus ((repeat (first | (with_reducible (first | refine Rt.fin ?_ | refine Rt.tL ?_ | refine Rt.tI ?_ | refine Rt.tB ?_ | refine Rt.tS ?_ | refine Rt.tP ?_ | refine Rt.tD ?_ | refine Rt.tM ?_ | refine Rt.tC ?_ | refine Rt.tN ?_ | refine Rt.tA ?_ | refine Rt.tG ?_ | refine Rt.tF ?_ | refine Rt.os ?_ | refine Rt.clS ?_ | refine Rt.jmN ?_ | refine Rt.jbN ?_ | refine Rt.jbE ?_)) | ((with_reducible (first | apply Rt.ld0 | apply Rt.ld1 | apply Rt.ld2 | apply Rt.ld3 | apply Rt.ld4 | apply Rt.ld5)); first | assumption | exact Lc.kp (by assumption) (by assumption)) | ((with_reducible apply Rt.ol); first | assumption | exact cell_kp (by assumption) (by assumption)))); exact Rt.some' rfl))))
    have k24 := k3.tr k4
    refine Rt.st0 (l2.kp k24) fun w5 l5 g5 => Rt.st1 l5 fun w6 l6 g6 => Rt.st2 l6 fun w7 l7 g7 => Rt.st3 l7 fun w8 l8 g8 => ?_
    (repeat (first | (with_reducible (first | refine Rt.fin ?_ | refine Rt.tL ?_ | refine Rt.tI ?_ | refine Rt.tB ?_ | refine Rt.tS ?_ | refine Rt.tP ?_ | refine Rt.tD ?_ | refine Rt.tM ?_ | refine Rt.tC ?_ | refine Rt.tN ?_ | refine Rt.tA ?_ | refine Rt.tG ?_ | refine Rt.tF ?_ | refine Rt.os ?_ | refine Rt.clS ?_ | refine Rt.jmN ?_ | refine Rt.jbN ?_ | refine Rt.jbE ?_)) | ((with_reducible (first | apply Rt.ld0 | apply Rt.ld1 | apply Rt.ld2 | apply Rt.ld3 | apply Rt.ld4 | apply Rt.ld5)); first | assumption | exact Lc.kp (by assumption) (by assumption)) | ((with_reducible apply Rt.ol); first | assumption | exact cell_kp (by assumption) (by assumption)) | ((with_reducible apply Rt.ckR); focus ((repeat (first | (with_reducible (first | refine Rt.fin ?_ | refine Rt.tL ?_ | refine Rt.tI ?_ | refine Rt.tB ?_ | refine Rt.tS ?_ | refine Rt.tP ?_ | refine Rt.tD ?_ | refine Rt.tM ?_ | refine Rt.tC ?_ | refine Rt.tN ?_ | refine Rt.tA ?_ | refine Rt.tG ?_ | refine Rt.tF ?_ | refine Rt.os ?_ | refine Rt.clS ?_ | refine Rt.jmN ?_ | refine Rt.jbN ?_ | refine Rt.jbE ?_)) | ((with_reducible (first | apply Rt.ld0 | apply Rt.ld1 | apply Rt.ld2 | apply Rt.ld3 | apply Rt.ld4 | apply Rt.ld5)); first | assumption | exact Lc.kp (by assumption) (by assumption)) | ((with_reducible apply Rt.ol); first | assumption | exact cell_kp (by assumption) (by assumption)))); exact Rt.some' rfl))))
    have g := ((g5.tr g6).tr g7).tr g8
    have hs3 := k3.size
    exact Rt.some' ⟨rfl, _, _, _, _, _, _, _, _, w8, rfl, (hv.gx g fun j hj => by omega).mono (by have := k13.size; omega), (k13.tr k4).tx g fun j hj => by have := k1.size; omega⟩
theorem Get_spec {bs : List Int} {q : Int} (h : SkA w base b S ks) (hk : Bv .u8 w A l c bs) (hq : (Lit.int .u64 q).wf = true) (hn : 2 ^ 60 < n) (hN : ks.length ≤ 2 ^ 30) : Rt (skip_List_Get n [pt b, .slice A l c, .int .u64 q] w) (ROpt (getA bs q ks) w) := by
  rw [skip_List_Get_eq]
  refine Rt.fin (Rt.al fun w1 l1 k1 s1 => ?_)
  refine Rt.cOpt (Seek_spec (h.kp k1) (k := ⟨bs, q, 1⟩) ⟨hk.kp k1, rfl, rfl, hq, (show (Lit.int .i64 1).wf = true by decide)⟩ hn hN) fun A1 l1' c1 s1' k1' B1 m1 d1 w2 hv k2 => ?_
  (repeat (first | (with_reducible (first | refine Rt.fin ?_ | refine Rt.tL ?_ | refine Rt.tI ?_ | refine Rt.tB ?_ | refine Rt.tS ?_ | refine Rt.tP ?_ | refine Rt.tD ?_ | refine Rt.tM ?_ | refine Rt.tC ?_ | refine Rt.tN ?_ | refine Rt.tA ?_ | refine Rt.tG ?_ | refine Rt.tF ?_ | refine Rt.os ?_ | refine Rt.clS ?_ | refine Rt.jmN ?_ | refine Rt.jbN ?_ | refine Rt.jbE ?_)) | ((with_reducible (first | apply Rt.ld0 | apply Rt.ld1 | apply Rt.ld2 | apply Rt.ld3 | apply Rt.ld4 | apply Rt.ld5)); first | assumption | exact Lc.kp (by assumption) (by assumption)) | ((with_reducible apply Rt.ol); first | assumption | exact cell_kp (by assumption) (by assumption)) | ((with_reducible apply Rt.ckR); focus ((repeat (first | (with_reducible (first | refine Rt.fin ?_ | refine Rt.tL ?_ | refine Rt.tI ?_ | refine Rt.tB ?_ | refine Rt.tS ?_ | refine Rt.tP ?_ | refine Rt.tD ?_ | refine Rt.tM ?_ | refine Rt.tC ?_ | refine Rt.tN ?_ | refine Rt.tA ?_ | refine Rt.tG ?_ | refine Rt.tF ?_ | refine Rt.os ?_ | refine Rt.clS ?_ | refine Rt.jmN ?_ | refine Rt.jbN ?_ | refine Rt.jbE ?_)) | ((with_reducible (first | apply Rt.ld0 | apply Rt.ld1 | apply Rt.ld2 | apply Rt.ld3 | apply Rt.ld4 | apply Rt.ld5)); first | assumption | exact Lc.kp (by assumption) (by assumption)) | ((with_reducible apply Rt.ol); first | assumption | exact cell_kp (by assumption) (by assumption)))); exact Rt.some' rfl))))
  have k12 := k1.tr k2
  have z1 := k1.size
  have z2 := k2.size
  refine Rt.al4 fun w3 l3 k3 s3 => ?_
  have k13 := k12.tr k3
  have l13 := (l1.kp k2).kp k3
  have none_ : ∀ w4, Kp w w4 → Lc w4 w.heap.size [.slice none 0 0, .int .u64 0, .int .i64 0, .slice none 0 0] → Rt (stC w4 ⟨w.heap.size, 0, none⟩ (.slice none 0 0) fun w31 => stC w31 (Addr.add ⟨w.heap.size, 0, none⟩ 1) (.int .u64 0) fun w32 => stC w32 (Addr.add ⟨w.heap.size, 0, none⟩ 2) (.int .i64 0) fun w33 => stC w33 (Addr.add ⟨w.heap.size, 0, none⟩ 3) (.slice none 0 0) fun w34 => opt (w34.cell? ⟨w.heap.size, 0, none⟩) fun v35 => Big.tL v35 fun A36 l37 c38 => opt (w34.cell? (Addr.add ⟨w.heap.size, 0, none⟩ 1)) fun v39 => Big.tI .u64 v39 fun n40 => opt (w34.cell? (Addr.add ⟨w.heap.size, 0, none⟩ 2)) fun v41 => Big.tI .i64 v41 fun n42 => opt (w34.cell? (Addr.add ⟨w.heap.size, 0, none⟩ 3)) fun v43 => Big.tL v43 fun A44 l45 c46 => some (⟨.ret, [.agg #[.slice A36 l37 c38, .int .u64 n40, .int .i64 n42, .slice A44 l45 c46], .bool false], w34⟩ : Res)) fun r => r.ex = .ret ∧ ROpt none w (r.vals, r.w) := by
    intro w4 k4 l4
    refine Rt.st0 l4 fun w5 l5 g5 => Rt.st1 l5 fun w6 l6 g6 => Rt.st2 l6 fun w7 l7 g7 => Rt.st3 l7 fun w8 l8 g8 => ?_
    (repeat (first | (with_reducible (first | refine Rt.fin ?_ | refine Rt.tL ?_ | refine Rt.tI ?_ | refine Rt.tB ?_ | refine Rt.tS ?_ | refine Rt.tP ?_ | refine Rt.tD ?_ | refine Rt.tM ?_ | refine Rt.tC ?_ | refine Rt.tN ?_ | refine Rt.tA ?_ | refine Rt.tG ?_ | refine Rt.tF ?_ | refine Rt.os ?_ | refine Rt.clS ?_ | refine Rt.jmN ?_ | refine Rt.jbN ?_ | refine Rt.jbE ?_)) | ((with_reducible (first | apply Rt.ld0 | apply Rt.ld1 | apply Rt.ld2 | apply Rt.ld3 | apply Rt.ld4 | apply Rt.ld5)); first | assumption | exact Lc.kp (by assumption) (by assumption)) | ((with_reducible apply Rt.ol); first | assumption | exact cell_kp (by assumption) (by assumption)) | ((with_reducible apply Rt.ckR); focus ((repeat (first | (with_reducible (first | refine Rt.fin ?_ | refine Rt.tL ?_ | refine Rt.tI ?_ | refine Rt.tB ?_ | refine Rt.tS ?_ | refine Rt.tP ?_ | refine Rt.tD ?_ | refine Rt.tM ?_ | refine Rt.tC ?_ | refine Rt.tN ?_ | refine Rt.tA ?_ | refine Rt.tG ?_ | refine Rt.tF ?_ | refine Rt.os ?_ | refine Rt.clS ?_ | refine Rt.jmN ?_ | refine Rt.jbN ?_ | refine Rt.jbE ?_)) | ((with_reducible (first | apply Rt.ld0 | apply Rt.ld1 | apply Rt.ld2 | apply Rt.ld3 | apply Rt.ld4 | apply Rt.ld5)); first | assumption | exact Lc.kp (by assumption) (by assumption)) | ((with_reducible apply Rt.ol); first | assumption | exact cell_kp (by assumption) (by assumption)))); exact Rt.some' rfl))))
    exact Rt.some' ⟨rfl, _, _, _, _, _, _, _, _, w8, rfl, eno_zero, k4.tx (((g5.tr g6).tr g7).tr g8) fun j hj => by omega⟩
  cases hs : seekA ⟨bs, q, 1⟩ ks with
  | none =>
    have hg : getA bs q ks = none := by unfold getA; rw [hs]
    rw [hg]
    exact Rt.cT rfl (none_ w3 k13 l13)
  | some e =>
    rw [hs] at hv
    have hv3 := hv.kp k3
    have hve : EnV w3 A1 l1' c1 s1' k1' B1 m1 d1 e := hv3.env
    refine Rt.cF rfl ?_
    (repeat (first | (with_reducible (first | refine Rt.fin ?_ | refine Rt.tL ?_ | refine Rt.tI ?_ | refine Rt.tB ?_ | refine Rt.tS ?_ | refine Rt.tP ?_ | refine Rt.tD ?_ | refine Rt.tM ?_ | refine Rt.tC ?_ | refine Rt.tN ?_ | refine Rt.tA ?_ | refine Rt.tG ?_ | refine Rt.tF ?_ | refine Rt.os ?_ | refine Rt.clS ?_ | refine Rt.jmN ?_ | refine Rt.jbN ?_ | refine Rt.jbE ?_)) | ((with_reducible (first | apply Rt.ld0 | apply Rt.ld1 | apply Rt.ld2 | apply Rt.ld3 | apply Rt.ld4 | apply Rt.ld5)); first | assumption | exact Lc.kp (by assumption) (by assumption)) | ((with_reducible apply Rt.ol); first | assumption | exact cell_kp (by assumption) (by assumption)) | ((with_reducible apply Rt.ckR); focus ((repeat (first | (with_reducible (first | refine Rt.fin ?_ | refine Rt.tL ?_ | refine Rt.tI ?_ | refine Rt.tB ?_ | refine Rt.tS ?_ | refine Rt.tP ?_ | refine Rt.tD ?_ | refine Rt.tM ?_ | refine Rt.tC ?_ | refine Rt.tN ?_ | refine Rt.tA ?_ | refine Rt.tG ?_ | refine Rt.tF ?_ | refine Rt.os ?_ | refine Rt.clS ?_ | refine Rt.jmN ?_ | refine Rt.jbN ?_ | refine Rt.jbE ?_)) | ((with_reducible (first | apply Rt.ld0 | apply Rt.ld1 | apply Rt.ld2 | apply Rt.ld3 | apply Rt.ld4 | apply Rt.ld5)); first | assumption | exact Lc.kp (by assumption) (by assumption)) | ((with_reducible apply Rt.ol); first | assumption | exact cell_kp (by assumption) (by assumption)))); exact Rt.some' rfl))))
    refine Rt.cBo (Equal_spec hve.key (hk.kp k13)) fun b' w4 hb k4 => ?_
    have k14 := k13.tr k4
    have l14 := l13.kp k4
    cases b' with
    | false =>
      have hg : getA bs q ks = none := by
        unfold getA; rw [hs]
        exact if_neg fun h => by simpa using hb.2 h
      rw [hg]
      exact Rt.cT rfl (none_ w4 k14 l14)
    | true =>
      have hg : getA bs q ks = some e := by
        unfold getA; rw [hs]
        exact if_pos (hb.1 rfl)
      rw [hg]
      refine Rt.cF rfl ?_
      have l34 := l3.kp k4
      (repeat (first | (with_reducible (first | refine Rt.fin ?_ | refine Rt.tL ?_ | refine Rt.tI ?_ | refine Rt.tB ?_ | refine Rt.tS ?_ | refine Rt.tP ?_ | refine Rt.tD ?_ | refine Rt.tM ?_ | refine Rt.tC ?_ | refine Rt.tN ?_ | refine Rt.tA ?_ | refine Rt.tG ?_ | refine Rt.tF ?_ | refine Rt.os ?_ | refine Rt.clS ?_ | refine Rt.jmN ?_ | refine Rt.jbN ?_ | refine Rt.jbE ?_)) | ((with_reducible (first | apply Rt.ld0 | apply Rt.ld1 | apply Rt.ld2 | apply Rt.ld3 | apply Rt.ld4 | apply Rt.ld5)); first | assumption | exact Lc.kp (by assumption) (by assumption)) | ((with_reducible apply Rt.ol); first | assumption | exact cell_kp (by assumption) (by assumption)) | ((with_reducible apply Rt.ckR); focus ((repeat (first | (with_reducible (first | refine Rt.fin ?_ | refine Rt.tL ?_ | refine Rt.tI ?_ | refine Rt.tB ?_ | refine Rt.tS ?_ | refine Rt.tP ?_ | refine Rt.tD ?_ | refine Rt.tM ?_ | refine Rt.tC ?_ | refine Rt.tN ?_ | refine Rt.tA ?_ | refine Rt.tG ?_ | refine Rt.tF ?_ | refine Rt.os ?_ | refine Rt.clS ?_ | refine Rt.jmN ?_ | refine Rt.jbN ?_ | refine Rt.jbE ?_)) | ((with_reducible (first | apply Rt.ld0 | apply Rt.ld1 | apply Rt.ld2 | apply Rt.ld3 | apply Rt.ld4 | apply Rt.ld5)); first | assumption | exact Lc.kp (by assumption) (by assumption)) | ((with_reducible apply Rt.ol); first | assumption | exact cell_kp (by assumption) (by assumption)))); exact Rt.some' rfl))))
      refine Rt.st0 l14 fun w5 l5 g5 => Rt.st1 l5 fun w6 l6 g6 => Rt.st2 l6 fun w7 l7 g7 => Rt.st3 l7 fun w8 l8 g8 => ?_
      (repeat (first | (with_reducible (first | refine Rt.fin ?_ | refine Rt.tL ?_ | refine Rt.tI ?_ | refine Rt.tB ?_ | refine Rt.tS ?_ | refine Rt.tP ?_ | refine Rt.tD ?_ | refine Rt.tM ?_ | refine Rt.tC ?_ | refine Rt.tN ?_ | refine Rt.tA ?_ | refine Rt.tG ?_ | refine Rt.tF ?_ | refine Rt.os ?_ | refine Rt.clS ?_ | refine Rt.jmN ?_ | refine Rt.jbN ?_ | refine Rt.jbE ?_)) | ((with_reducible (first | apply Rt.ld0 | apply Rt.ld1 | apply Rt.ld2 | apply Rt.ld3 | apply Rt.ld4 | apply Rt.ld5)); first | assumption | exact Lc.kp (by assumption) (by assumption)) | ((with_reducible apply Rt.ol); first | assumption | exact cell_kp (by assumption) (by assumption)) | ((with_reducible apply Rt.ckR); focus ((repeat (first | (with_reducible (first | refine Rt.fin ?_ | refine Rt.tL ?_ | refine Rt.tI ?_ | refine Rt.tB ?_ | refine Rt.tS ?_ | refine Rt.tP ?_ | refine Rt.tD ?_ | refine Rt.tM ?_ | refine Rt.tC ?_ | refine Rt.tN ?_ | refine Rt.tA ?_ | refine Rt.tG ?_ | refine Rt.tF ?_ | refine Rt.os ?_ | refine Rt.clS ?_ | refine Rt.jmN ?_ | refine Rt.jbN ?_ | refine Rt.jbE ?_)) | ((with_reducible (first | apply Rt.ld0 | apply Rt.ld1 | apply Rt.ld2 | apply Rt.ld3 | apply Rt.ld4 | apply Rt.ld5)); first | assumption | exact Lc.kp (by assumption) (by assumption)) | ((with_reducible apply Rt.ol); first | assumption | exact cell_kp (by assumption) (by assumption)))); exact Rt.some' rfl))))
      have g := ((g5.tr g6).tr g7).tr g8
      exact Rt.some' ⟨rfl, _, _, _, _, _, _, _, _, w8, rfl, ((hv3.kp k4).gx g fun j hj => by omega).mono (by omega), k14.tx g fun j hj => by omega⟩
theorem Len_spec (h : SkA w base b S ks) : Rt (skip_List_Len n [pt b] w) (RI .i64 (ks.length : Int) w) := by
  obtain ⟨⟨s, ord, hS, hi, hks, hby⟩, hok⟩ := h
  obtain ⟨R, A, c, nv, hV, _⟩ := hS
  rw [skip_List_Len_eq]
  refine Rt.fin (Rt.os (Rt.ldn hV.lc (blk_12 s _ _ _ hV.fst) (Rt.tL (Rt.endI ?_ (Kp.rfl' w)))))
  rw [hV.len, ← hi.len, hks, List.length_map]
theorem Bytes_spec (h : SkA w base b S ks) : Rt (skip_List_Bytes n [pt b] w) (RI .i64 (sizeA ks) w) := by
  obtain ⟨⟨s, ord, hS, hi, hks, hby⟩, hok⟩ := h
  obtain ⟨R, A, c, nv, hV, _⟩ := hS
  rw [skip_List_Bytes_eq]
  exact Rt.fin (Rt.os (Rt.ldn hV.lc (blk_13 s _ _ _ hV.fst) (Rt.tI (Rt.endI hby (Kp.rfl' w)))))
end
end Go.Proofs.Ytoilmnplocfipaa.Sk
