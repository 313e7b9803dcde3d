/- A sorted buffer: a node made for an entry; a node put behind. -/
import Derived.Test.YtoilmnplocfipaaS3
namespace Go.Proofs.Ytoilmnplocfipaa.Sk
open Go Big Go.RowKit Go.IntWalk Ik
set_option linter.unusedVariables false
set_option linter.unusedSimpArgs false
/-- A node that was made for an entry. -/
structure Made (w0 w : World) (x : En) (h nb g : Nat) (K : Option Addr) (kc : Nat) (V : Option Addr) (vc : Nat) : Prop where
  lc : Lc w nb [.slice K x.key.length kc, .int .u64 x.seq, .int .i64 x.kind, .slice V x.val.length vc, .slice (some ⟨g, 0, none⟩) h h]
  oK : Own .u8 5 w w0.heap.size (.slice K x.key.length kc) x.key
  oV : Own .u8 5 w w0.heap.size (.slice V x.val.length vc) x.val
  oN : Own .i64 3 w w0.heap.size (.slice (some ⟨g, 0, none⟩) h h) (List.replicate h 0)
  kp : Kp w0 w
  lo : w0.heap.size ≤ nb
  d1 : nb ≠ g
  d2 : ¬ On (.slice K x.key.length kc) nb
  d3 : ¬ On (.slice V x.val.length vc) nb
  d4 : ¬ On (.slice K x.key.length kc) g
  d5 : ¬ On (.slice V x.val.length vc) g
section
variable {α : Type} {Q : α → Prop} {n base b : Nat} {w w' w0 : World} {S T R : Nat → Prop} {s : St} {A : Option Addr} {c : Nat} {nv : List Nw} {ord : List Nat} {k : Key}
theorem Rt.cEn {x : Option (List Value × World)} {e : En} (h : Rt x (REn e w0)) {f : List Value → World → Option α} (hf : ∀ A c B d w1, Own .u8 5 w1 w0.heap.size (.slice A e.key.length c) e.key → Own .u8 5 w1 w0.heap.size (.slice B e.val.length d) e.val → Kp w0 w1 →
    Rt (f [ev A e.key.length c e.seq e.kind B e.val.length d] w1) Q) : Rt (Big.cl x f) Q := by
  obtain ⟨_, rfl, A, c, B, d, w1, rfl, o1, o2, h3, k1⟩ := h
  exact hf A c B d w1 o1 o2 k1
theorem made_fin {w3 : World} {x : En} {h nb g : Nat} {K V : Option Addr} {kc vc b1 b2 b3 : Nat} {f : World → Option α} (l : Lc w3 nb [.slice none 0 0, .int .u64 0, .int .i64 0, .slice none 0 0, .slice none 0 0])
    (oK : Own .u8 5 w3 b1 (.slice K x.key.length kc) x.key) (oV : Own .u8 5 w3 b2 (.slice V x.val.length vc) x.val) (oN : Own .i64 3 w3 b3 (.slice (some ⟨g, 0, none⟩) h h) (List.replicate h 0)) (h1 : w0.heap.size ≤ b1) (h2 : w0.heap.size ≤ b2) (h3 : w0.heap.size ≤ b3) (kp : Kp w0 w3) (hnb : w0.heap.size ≤ nb)
    (d1 : nb ≠ g) (d2 : ¬ On (.slice K x.key.length kc) nb) (d3 : ¬ On (.slice V x.val.length vc) nb) (d4 : ¬ On (.slice K x.key.length kc) g) (d5 : ¬ On (.slice V x.val.length vc) g) (hf : ∀ w4, Made w0 w4 x h nb g K kc V vc → Rt (f w4) Q) :
    Rt (stC w3 ⟨nb, 0, none⟩ (.slice K x.key.length kc) fun w4 => stC w4 (Addr.add ⟨nb, 0, none⟩ 1) (.int .u64 x.seq) fun w5 => stC w5 (Addr.add ⟨nb, 0, none⟩ 2) (.int .i64 x.kind) fun w6 => stC w6 (Addr.add ⟨nb, 0, none⟩ 3) (.slice V x.val.length vc) fun w7 => stC w7 (Addr.add ⟨nb, 0, none⟩ 4) (.slice (some ⟨g, 0, none⟩) h h) f) Q := by
  refine Rt.sto5 l fun w4 l4 g4 => hf w4 ⟨l4, (oK.gx g4 ?_).mono h1, (oV.gx g4 ?_).mono h2, (oN.gx g4 ?_).mono h3, kp.tx g4 fun j hj => by omega, hnb, d1, d2, d3, d4, d5⟩
  · intro j hj e; exact d2 (e ▸ hj)
  · intro j hj e; exact d3 (e ▸ hj)
  · intro j hj e
    have hj : some g = some j := hj
    injection hj with hj
    omega
def RMade (w0 : World) (x : En) (h : Nat) (vals : Nat → List Value) (r : Res) : Prop := r.ex = .norm ∧ ∃ nb g K kc V vc, r.vals = vals nb ∧ Made w0 r.w x h nb g K kc V vc
theorem OwnNw.gx {e : TypeId} {v : Value} {xs : List Nw} (h : OwnE nwEl e w base v xs) (hg : Gx T w w') (hn : ∀ j, On v j → ¬ T j) : OwnE nwEl e w' base v xs := by
  obtain ⟨vs, h1, h2⟩ := h
  exact ⟨vs, ⟨h1.1, h1.2.imp id fun ⟨g, cap, cur, e1, e2, e3, e4⟩ => ⟨g, cap, cur, e1, e2, by rw [hg.block g (Array.getElem?_eq_some_iff.1 e3).1 (hn g (by rw [e1]; rfl))]; exact e3, e4⟩⟩, fun w2 _ => rows_free h2.out⟩
/-- A node put behind the others. -/
theorem SkV.push (h : SkV w base b R A c nv s) {z : Nat} (hz : ∀ j, SkS b R A c nv j → j < z) {x : Nd} {v : Nw} {A' : Option Addr} {c' : Nat} {B : Int} {w2 : World} (hzw : z ≤ w.heap.size) (hbz : base ≤ z)
    (hg : Gx (fun j => On (.slice A nv.length c) j ∨ j = b) w w2) (hl : Lc w2 b (blk { s with nodes := s.nodes ++ [x], bytes := B } A' (nv.length + 1) c')) (hrow : OwnE nwEl 84 w2 base (.slice A' (nv.length + 1) c') (nv ++ [v])) (hA : ∀ j, On (.slice A' (nv.length + 1) c') j → On (.slice A nv.length c) j ∨ w.heap.size ≤ j)
    (ho1 : Own .u8 5 w2 z (.slice v.K v.kl v.kc) x.e.key) (ho2 : Own .u8 5 w2 z (.slice v.V v.vl v.vc) x.e.val) (hrk : ∀ y ∈ x.e.key, (Lit.int .u8 y).wf = true) (hrv : ∀ y ∈ x.e.val, (Lit.int .u8 y).wf = true) (hs : v.s = x.e.seq) (hk : v.k = x.e.kind) (hrs : (Lit.int .u64 x.e.seq).wf = true) (hrk' : (Lit.int .i64 x.e.kind).wf = true)
    (hon : Own .i64 3 w2 z (.slice (some ⟨v.g, 0, none⟩) v.nl v.nc) (x.next.map en)) (hlt : ∀ j, (On (.slice v.K v.kl v.kc) j ∨ On (.slice v.V v.vl v.vc) j ∨ j = v.g) → z ≤ j ∧ j < w.heap.size) (hd1 : ¬ On (.slice v.K v.kl v.kc) v.g) (hd2 : ¬ On (.slice v.V v.vl v.vc) v.g) :
    SkV w2 base b (fun j => R j ∨ On (.slice v.K v.kl v.kc) j ∨ On (.slice v.V v.vl v.vc) j) A' c' (nv ++ [v]) { s with nodes := s.nodes ++ [x], bytes := B } := by
  have hlen : (nv ++ [v]).length = nv.length + 1 := by rw [List.length_append]; rfl
  have hnew : ∀ j, z ≤ j → ¬ (On (.slice A nv.length c) j ∨ j = b) := fun j hj h' => by
    rcases h' with h' | h'
    · have := hz j (.inr (.inl h')); omega
    · have := hz j (.inl h'); omega
  have hold : ∀ j, SkS b R A c nv j → ¬ (On (.slice v.K v.kl v.kc) j ∨ On (.slice v.V v.vl v.vc) j ∨ j = v.g) := fun j hj h' => by have := hz j hj; have := (hlt j h').1; omega
  have hA2 : ∀ j, j < w.heap.size → z ≤ j → ¬ On (.slice A' (nv.length + 1) c') j := fun j h1 h2 h' => by
    rcases hA j h' with h3 | h3
    · have := hz j (.inr (.inl h3)); omega
    · omega
  have hg_lt : v.g < w.heap.size ∧ z ≤ v.g := by have := hlt v.g (.inr (.inr rfl)); omega
  refine ⟨h.lo, h.fst, by rw [hlen]; exact hl, by rw [hlen]; exact hrow, ?_, by rw [hlen, List.length_append, h.len]; rfl, fun i y u hy hu => ?_, fun i j u u' hu hu' he => ?_, fun j hj => ?_, ?_, fun j hj => ?_⟩
  · rw [hlen]
    intro h'
    rcases hA b h' with h3 | h3
    · exact h.nrow h3
    · have := h.lc.lt; omega
  · rw [hlen]
    rcases Nat.lt_or_ge i nv.length with hi | hi
    · have hy : s.nodes[i]? = some y := by
        have : (s.nodes ++ [x])[i]? = some y := hy
        rwa [List.getElem?_append_left (by rw [← h.len]; exact hi)] at this
      rw [List.getElem?_append_left hi] at hu
      have hd := h.nd i y u hy hu
      have hug : SkS b R A c nv u.g := .inr (.inr (.inl ⟨i, u, hu, rfl⟩))
      refine ⟨?_, hd.own.gx hg fun j hj e => ?_, hd.nb, fun h' => ?_, fun h' => ?_⟩
      · refine (hd.ent.on (hg.wide fun j _ hj hR => ?_)).less fun j _ hj hR => hj (.inl hR)
        rcases hj with hj | hj
        · exact h.rrow j hR hj
        · exact h.rb (hj ▸ hR)
      · have hj : some u.g = some j := hj
        injection hj with hj
        subst hj
        rcases e with e | e
        · exact hd.nrow e
        · exact hd.nb e
      · rcases hA _ h' with h3 | h3
        · exact hd.nrow h3
        · have := hz _ hug; omega
      · rcases h' with h' | h'
        · exact hd.nR h'
        · exact hold _ hug (h'.elim .inl fun h => .inr (.inl h))
    · obtain rfl : i = nv.length := by
        have := (List.getElem?_eq_some_iff.1 hu).1
        rw [hlen] at this; omega
      rw [List.getElem?_append_right (Nat.le_refl _), Nat.sub_self] at hu
      have hy : (s.nodes ++ [x])[nv.length]? = some y := hy
      rw [h.len, List.getElem?_append_right (Nat.le_refl _), Nat.sub_self] at hy
      injection hu with hu
      injection hy with hy
      subst hu hy
      refine ⟨fun w3 g3 => ⟨(ho1.gx g3 fun j hj hR => hR (.inr (.inl hj))).bv hrk, hs, hk, hrs, hrk', (ho2.gx g3 fun j hj hR => hR (.inr (.inr hj))).bv hrv⟩, hon.mono (by omega), fun e => hnew _ hg_lt.2 (.inr e), hA2 _ hg_lt.1 hg_lt.2, fun h' => ?_⟩
      rcases h' with h' | h' | h'
      · have := hz _ (.inr (.inr (.inr h'))); omega
      · exact hd1 h'
      · exact hd2 h'
  · have key : ∀ i u, (nv ++ [v])[i]? = some u → i < nv.length ∧ nv[i]? = some u ∨ i = nv.length ∧ u = v := fun i u hu => by
      rcases Nat.lt_or_ge i nv.length with hi | hi
      · rw [List.getElem?_append_left hi] at hu; exact .inl ⟨hi, hu⟩
      · have hlt := (List.getElem?_eq_some_iff.1 hu).1
        rw [hlen] at hlt
        obtain rfl : i = nv.length := by omega
        rw [List.getElem?_append_right (Nat.le_refl _), Nat.sub_self] at hu
        injection hu with hu
        exact .inr ⟨rfl, hu.symm⟩
    rcases key i u hu with ⟨h1, h2⟩ | ⟨h1, h2⟩ <;> rcases key j u' hu' with ⟨h3, h4⟩ | ⟨h3, h4⟩
    · exact h.inj i j u u' h2 h4 he
    · subst h4
      exact absurd (.inr (.inr he)) (hold u.g (.inr (.inr (.inl ⟨i, u, h2, rfl⟩))))
    · subst h2
      exact absurd (.inr (.inr he.symm)) (hold u'.g (.inr (.inr (.inl ⟨j, u', h4, rfl⟩))))
    · omega
  · rcases hj with hj | hj
    · exact ⟨(h.rlo j hj).1, Nat.lt_of_lt_of_le (h.rlo j hj).2 hg.size⟩
    · have := hlt j (hj.elim .inl fun h => .inr (.inl h))
      have := hg.size
      exact ⟨by omega, by omega⟩
  · intro h'
    rcases h' with h' | h'
    · exact h.rb h'
    · exact hold b (.inl rfl) (h'.elim .inl fun h => .inr (.inl h))
  · rw [hlen]
    intro h'
    rcases hj with hj | hj
    · rcases hA j h' with h3 | h3
      · exact h.rrow j hj h3
      · have := hz j (.inr (.inr (.inr hj))); omega
    · have := hlt j (hj.elim .inl fun h => .inr (.inl h))
      exact hA2 j this.2 this.1 h'
end
end Go.Proofs.Ytoilmnplocfipaa.Sk
