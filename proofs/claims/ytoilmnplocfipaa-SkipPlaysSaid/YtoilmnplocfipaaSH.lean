/- A sorted buffer, as it lies in memory. -/
import Derived.Test.YtoilmnplocfipaaK2
import Derived.Test.YtoilmnplocfipaaSM
import Derived.Test.YtoilmnplocfipaaM9
import Derived.Test.YtoilmnplocfipaaGS0
namespace Go.Proofs.Ytoilmnplocfipaa.Sk
open Go Big Go.RowKit Go.IntWalk Ik
set_option linter.unusedVariables false
set_option linter.unusedSimpArgs false
theorem slI : ∃ i, SlT Try.prog 40 3 .i64 i := slT (by kernel_rfl)
theorem slN : ∃ i v, SlTE Try.prog 77 84 5 i v := slTE (by kernel_rfl)
structure Nw where
  K : Option Addr
  kl : Nat
  kc : Nat
  s : Int
  k : Int
  V : Option Addr
  vl : Nat
  vc : Nat
  g : Nat
  nl : Nat
  nc : Nat
def Nw.cells (v : Nw) : List Value := [.slice v.K v.kl v.kc, .int .u64 v.s, .int .i64 v.k, .slice v.V v.vl v.vc, .slice (some ⟨v.g, 0, none⟩) v.nl v.nc]
def nwEl : El Nw where
  sz := 5
  rd _ vs x := vs = x.cells
  kp := fun _ h => h
  one := fun {w vs x} h u hu => by subst h; simp only [Nw.cells, List.mem_cons, List.not_mem_nil, or_false] at hu; rcases hu with rfl | rfl | rfl | rfl | rfl <;> rfl
structure NdOk (w : World) (base : Nat) (R : Nat → Prop) (b : Nat) (row : Value) (x : Nd) (v : Nw) : Prop where
  ent : Stb (fun j => ¬ R j) (fun w => EnV w v.K v.kl v.kc v.s v.k v.V v.vl v.vc x.e) w
  own : Own .i64 3 w base (.slice (some ⟨v.g, 0, none⟩) v.nl v.nc) (x.next.map en)
  nb : v.g ≠ b
  nrow : ¬ On row v.g
  nR : ¬ R v.g
abbrev blk (s : St) (A : Option Addr) (l c : Nat) : List Value := (s.first.map fun a => Value.int .i64 (en a)) ++ [.slice A l c, .int .i64 s.bytes]
structure SkV (w : World) (base b : Nat) (R : Nat → Prop) (A : Option Addr) (c : Nat) (nv : List Nw) (s : St) : Prop where
  lo : base ≤ b
  fst : s.first.length = 12
  lc : Lc w b (blk s A nv.length c)
  row : OwnE nwEl 84 w base (.slice A nv.length c) nv
  nrow : ¬ On (.slice A nv.length c) b
  len : nv.length = s.nodes.length
  nd : ∀ (i : Nat) (x : Nd) (v : Nw), s.nodes[i]? = some x → nv[i]? = some v → NdOk w base R b (.slice A nv.length c) x v
  inj : ∀ (i j : Nat) (v v' : Nw), nv[i]? = some v → nv[j]? = some v' → v.g = v'.g → i = j
  rlo : ∀ j, R j → base ≤ j ∧ j < w.heap.size
  rb : ¬ R b
  rrow : ∀ j, R j → ¬ On (.slice A nv.length c) j
def SkS (b : Nat) (R : Nat → Prop) (A : Option Addr) (c : Nat) (nv : List Nw) (j : Nat) : Prop := j = b ∨ On (.slice A nv.length c) j ∨ (∃ (i : Nat) (v : Nw), nv[i]? = some v ∧ v.g = j) ∨ R j
def Sk (w : World) (base b : Nat) (S : Nat → Prop) (s : St) : Prop := ∃ R A c nv, SkV w base b R A c nv s ∧ ∀ j, S j ↔ SkS b R A c nv j
abbrev pt (b : Nat) : Value := .pointer (some ⟨b, 0, none⟩)
section
variable {α : Type} {Q : α → Prop} {n base b : Nat} {w w' w0 : World} {S T R : Nat → Prop} {s : St} {A : Option Addr} {c : Nat} {nv : List Nw}
theorem rows_free : ∀ {xs : List Nw} {vs : List Value} {w w' : World}, Big.Rows nwEl w vs xs → Big.Rows nwEl w' vs xs
  | [], vs, w, w', h => h
  | x :: xs, vs, w, w', h => by
    obtain ⟨a, b, e, h1, h2, h3⟩ := h
    exact ⟨a, b, e, h1, h2, rows_free h3⟩
theorem SkV.has (h : SkV w base b R A c nv s) {i : Nat} {x : Nd} (hx : s.nodes[i]? = some x) : ∃ v, nv[i]? = some v ∧ NdOk w base R b (.slice A nv.length c) x v := by
  have hlt := (List.getElem?_eq_some_iff.1 hx).1
  have hv : nv[i]? = some (nv[i]'(by rw [h.len]; exact hlt)) := List.getElem?_eq_getElem _
  exact ⟨_, hv, h.nd i x _ hx hv⟩
theorem SkV.has' (h : SkV w base b R A c nv s) {i : Nat} {v : Nw} (hv : nv[i]? = some v) : ∃ x, s.nodes[i]? = some x ∧ NdOk w base R b (.slice A nv.length c) x v := by
  have hlt := (List.getElem?_eq_some_iff.1 hv).1
  have hx : s.nodes[i]? = some (s.nodes[i]'(by rw [← h.len]; exact hlt)) := List.getElem?_eq_getElem _
  exact ⟨_, hx, h.nd i _ v hx hv⟩
theorem SkV.gx (h : SkV w base b R A c nv s) (hg : Gx T w w') (hn : ∀ j, SkS b R A c nv j → ¬ T j) : SkV w' base b R A c nv s := by
  refine ⟨h.lo, h.fst, h.lc.gx hg (hn b (.inl rfl)), ?_, h.nrow, h.len, fun i x v hx hv => ?_, h.inj, fun j hj => ⟨(h.rlo j hj).1, Nat.lt_of_lt_of_le (h.rlo j hj).2 hg.size⟩, h.rb, h.rrow⟩
  · obtain ⟨vs, h1, h2⟩ := h.row
    refine ⟨vs, ⟨h1.1, h1.2.imp id fun ⟨g, cap, cur, e1, e2, e3, e4⟩ => ⟨g, cap, cur, e1, e2, by rw [hg.block g (Array.getElem?_eq_some_iff.1 e3).1 (hn g (.inr (.inl (by rw [e1]; rfl))))]; exact e3, e4⟩⟩, fun w2 _ => ?_⟩
    exact rows_free h2.out
  · have hd := h.nd i x v hx hv
    refine ⟨hd.ent.on (hg.wide fun j _ hj hR => hn j (.inr (.inr (.inr hR))) hj), hd.own.gx hg fun j hj => hn j (.inr (.inr (.inl ⟨i, v, hv, ?_⟩))), hd.nb, hd.nrow, hd.nR⟩
    have hj : some v.g = some j := hj
    injection hj
theorem Sk.gx (h : Sk w base b S s) (hg : Gx T w w') (hn : ∀ j, S j → ¬ T j) : Sk w' base b S s := by
  obtain ⟨R, A, c, nv, h1, h2⟩ := h
  exact ⟨R, A, c, nv, h1.gx hg fun j hj => hn j ((h2 j).2 hj), h2⟩
theorem Sk.kp (h : Sk w base b S s) (hk : Kp w w') : Sk w' base b S s := h.gx (T := fun _ => False) hk.gx fun _ _ h => h
theorem SkV.lt (h : SkV w base b R A c nv s) {j : Nat} (hj : SkS b R A c nv j) : base ≤ j ∧ j < w.heap.size := by
  rcases hj with rfl | hj | ⟨i, v, hv, rfl⟩ | hj
  · exact ⟨h.lo, h.lc.lt⟩
  · exact h.row.lt j hj
  · obtain ⟨x, _, hd⟩ := h.has' hv
    exact hd.own.lt _ rfl
  · exact h.rlo j hj
theorem Sk.lt (h : Sk w base b S s) {j : Nat} (hj : S j) : base ≤ j ∧ j < w.heap.size := by
  obtain ⟨R, A, c, nv, h1, h2⟩ := h
  exact h1.lt ((h2 j).1 hj)
theorem blk_fst (s : St) (A : Option Addr) (l c : Nat) (hf : s.first.length = 12) {j : Nat} {v : Option Nat} (h : s.first[j]? = some v) : (blk s A l c)[j]? = some (.int .i64 (en v)) := by
  have hj := (List.getElem?_eq_some_iff.1 h).1
  rw [List.getElem?_append_left (by rw [List.length_map]; exact hj), List.getElem?_map, h]; rfl
theorem blk_12 (s : St) (A : Option Addr) (l c : Nat) (hf : s.first.length = 12) : (blk s A l c)[12]? = some (.slice A l c) := by
  rw [List.getElem?_append_right (by rw [List.length_map]; omega), List.length_map, hf]; rfl
theorem blk_13 (s : St) (A : Option Addr) (l c : Nat) (hf : s.first.length = 12) : (blk s A l c)[13]? = some (.int .i64 s.bytes) := by
  rw [List.getElem?_append_right (by rw [List.length_map]; omega), List.length_map, hf]; rfl
theorem blk_len (s : St) (A : Option Addr) (l c : Nat) (hf : s.first.length = 12) : (blk s A l c).length = 14 := by
  rw [List.length_append, List.length_map, hf]; rfl
/-- A node of the row. -/
theorem Rt.ixNd (h : SkV w base b R A c nv s) {i : Nat} {x : Nd} (hx : s.nodes[i]? = some x) {f : Addr → Option α}
    (hf : ∀ a v, nv[i]? = some v → NdOk w base R b (.slice A nv.length c) x v → w.cell? a = some (.slice v.K v.kl v.kc) → w.cell? (a.add 1) = some (.int .u64 v.s) → w.cell? (a.add 2) = some (.int .i64 v.k) → w.cell? (a.add 3) = some (.slice v.V v.vl v.vc) → w.cell? (a.add 4) = some (.slice (some ⟨v.g, 0, none⟩) v.nl v.nc) → Rt (f a) Q) :
    Rt (ixA A nv.length (i : Int) 5 f) Q := by
  obtain ⟨v, hv, hd⟩ := h.has hx
  have hlt := (List.getElem?_eq_some_iff.1 hv).1
  refine Rt.ixe (E := nwEl) h.row.sl.2 rfl (by omega) (by omega) fun y a us e1 _ e3 e4 => ?_
  rw [Int.toNat_natCast, hv] at e1
  injection e1 with e1
  subst e1
  have e3 : us = v.cells := e3
  subst e3
  have c0 := e4 0 _ rfl
  rw [Addr.add_zero'] at c0
  exact hf a v hv hd c0 (e4 1 _ rfl) (e4 2 _ rfl) (e4 3 _ rfl) (e4 4 _ rfl)
theorem NdOk.nxt {row : Value} {x : Nd} {v : Nw} (h : NdOk w base R b row x v) : v.nl = x.next.length ∧ Sl .i64 w (some ⟨v.g, 0, none⟩) v.nl (x.next.map en) := by
  obtain ⟨h1, h2⟩ := h.own.sl
  exact ⟨by rw [h1, List.length_map], h2⟩
theorem after_spec (h : Sk w base b S s) {a v : Option Nat} {j : Nat} (ha : Aft s a j v) (hj : j < 12) : Rt (skip_List_after n [pt b, .int .i64 (en a), .int .i64 (j : Int)] w) fun r => r = ([.int .i64 (en v)], w) := by
  obtain ⟨R, A, c, nv, h, _⟩ := h
  rw [skip_List_after_eq]
  cases a with
  | none =>
    refine Rt.fin (Rt.cT rfl (Rt.os (Rt.ixRb (by omega) (by omega) (Rt.ldb h.lc (blk_fst s _ _ _ h.fst (by rw [Int.toNat_natCast]; exact ha)) (Rt.tI (Rt.some' ⟨rfl, rfl⟩))))))
  | some k =>
    obtain ⟨x, hx, hv⟩ := ha
    refine Rt.fin (Rt.cQ (fun e => by simp [en] at e) fun _ => Rt.os (Rt.ldn h.lc (blk_12 s _ _ _ h.fst) (Rt.tL (Rt.ixNd h hx fun a v' hv' hd c0 c1 c2 c3 c4 => Rt.ol c4 (Rt.tL ?_)))))
    obtain ⟨hl, hs⟩ := hd.nxt
    have hjl := (List.getElem?_eq_some_iff.1 hv).1
    refine Rt.ix hs (by omega) (by omega) (Rt.some' ⟨rfl, ?_⟩)
    simp [List.getD_eq_getElem?_getD, hv]
end
end Go.Proofs.Ytoilmnplocfipaa.Sk
