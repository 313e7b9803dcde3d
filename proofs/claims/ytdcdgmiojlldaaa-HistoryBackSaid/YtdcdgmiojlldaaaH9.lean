/- The sort sorts: what my reading of it ends with is what the library's law tells. -/
import Derived.Test.YtdcdgmiojlldaaaH8
import Derived.Barred
namespace Go.Proofs.Ytdcdgmiojlldaaa.Hi
open Go Big Go.RowKit Go.IntWalk Go.Sort
set_option linter.unusedVariables false
set_option linter.unusedSimpArgs false
/-- Two contracts on one call speak of one end. -/
theorem agree {P : Program} {f : FuncId} {args : Array Value} {w : World} {R R' : Value → World → Prop}
    (h : Calls P f args w fun | .returned v, w' => R v w' | _, _ => False) (h' : Calls P f args w fun | .returned v, w' => R' v w' | _, _ => False) (hi : P.inits.idxOf? f = none) :
    ∃ v w', R v w' ∧ R' v w' := by
  obtain ⟨n, v, w1, e1, r1⟩ := h.done hi
  obtain ⟨m, v', w2, e2, r2⟩ := h'.done hi
  have a := runN_ended e1 m
  have b := runN_ended e2 n
  rw [Nat.add_comm, a] at b
  injection b with ho hw
  injection ho with hv
  subst hv hw
  exact ⟨_, _, r1, r2⟩
section
variable {n base g c : Nat} {w w' : World} {xs ys : List PV}
theorem PV.ext' {x y : PV} (h1 : x.k = y.k) (h2 : x.v = y.v) : x = y := by
  obtain ⟨a, b, c, d, e, f⟩ := x
  obtain ⟨a', b', c', d', e', f'⟩ := y
  injection h1 with p1 p2 p3
  injection h2 with p4 p5 p6
  subst p1 p2 p3 p4 p5 p6
  rfl
abbrev Mem (xs : List PV) := { x : PV // x ∈ xs }
def arr (xs : List PV) : Array (Mem xs) := xs.attach.toArray
theorem arr_size : (arr xs).size = xs.length := by simp [arr]
theorem gx_putRow {α : Type} [Inhabited α] (enc : α → List Value) (k : Nat) (w : World) (blk off m : Nat) (d : Array α) (os : Array Obj) : Gx (fun j => j = blk) w (sortWorldK enc k w blk off m d os) := by
  refine ⟨rfl, rfl, rfl, ?_, fun j hj hn => ?_⟩
  · show w.heap.size ≤ (w.heap.modify blk _ ++ os).size
    simp
  · show (w.heap.modify blk _ ++ os)[j]? = _
    rw [Array.getElem?_append_left (by simpa using hj), Array.getElem?_modify, if_neg (fun e => hn e.symm)]
theorem rd_row {α : Type} [Inhabited α] (f : α → PV) {d : Array α} (h : HoldsK (fun x => (f x).vs) 2 w g 0 d) (hr : Row2 w base (some ⟨g, 0, none⟩) d.size c ys) : ys = d.toList.map f := by
  have hlen := hr.len
  refine List.ext_getElem? fun i => ?_
  by_cases hi : i < d.size
  · have hy : ys[i]? = some (ys[i]'(by omega)) := List.getElem?_eq_getElem _
    generalize (ys[i]'(by omega)) = y at hy
    obtain ⟨e1, e2⟩ := flat_at hy
    have c1 := hr.own.cellAt (2 * i) (by omega)
    have c2 := hr.own.cellAt (2 * i + 1) (by omega)
    rw [e1] at c1
    rw [e2] at c2
    have d1 := (h.cell (i := i) (c := 0) hi (by decide)).1
    have d2 := (h.cell (i := i) (c := 1) hi (by decide)).1
    rw [show 0 + i * 2 + 0 = 2 * i by omega, c1] at d1
    rw [show 0 + i * 2 + 1 = 2 * i + 1 by omega, c2] at d2
    have hd : d[i]! = d[i] := getElem!_pos d i hi
    rw [hd] at d1 d2
    have hxy : y = f d[i] := PV.ext' (Option.some.inj d1) (Option.some.inj d2)
    rw [hy, hxy]
    simp [hi]
  · rw [List.getElem?_eq_none (by omega), List.getElem?_eq_none (by simp; omega)]
theorem holds_row {α : Type} [Inhabited α] (f : α → PV) {d : Array α} (hd : d.toList.map f = ys) (hr : Row2 w base (some ⟨g, 0, none⟩) ys.length c ys) : HoldsK (fun x => (f x).vs) 2 w g 0 d := by
  intro j hj
  rw [size_flatK] at hj
  have hsz : d.size = ys.length := by rw [← hd]; simp
  refine ⟨?_, hr.own.frozenAt _⟩
  rw [Nat.zero_add, hr.own.cellAt j (by omega), get_flatK _ _ _ _ hj]
  have hi : j / 2 < d.size := by omega
  have hdi : d[j / 2]! = d[j / 2] := getElem!_pos d _ hi
  have hy : ys[j / 2]? = some (f d[j / 2]) := by rw [← hd]; simp [hi]
  obtain ⟨e1, e2⟩ := flat_at hy
  rw [hdi]
  generalize d[j / 2] = z at e1 e2 ⊢
  rcases Nat.mod_two_eq_zero_or_one j with h0 | h0
  · rw [h0]
    rw [show 2 * (j / 2) = j by omega] at e1
    rw [e1]; rfl
  · rw [h0]
    rw [show 2 * (j / 2) + 1 = j by omega] at e2
    rw [e2]; rfl
theorem Sort_law (hn : 2 ^ 60 < n) {kb : PV → List Int} (hr : Row2 w base (some ⟨g, 0, none⟩) xs.length c xs) (hne : xs ≠ []) (hl : xs.length ≤ 511) (hlt : g < w.heap.size) (hkey : ∀ x ∈ xs, Stb (fun j => j = g ∨ w.heap.size ≤ j) (fun w => Bv .u8 w x.kA x.kl x.kc (kb x)) w) :
    Calls Try.prog 22 #[.slice (some ⟨g, 0, none⟩) xs.length c, cmpV] w fun e w' => e = .returned (.tuple #[]) ∧ ∀ ys, Row2 w' base (some ⟨g, 0, none⟩) xs.length c ys → ys.Perm xs ∧ ys.Pairwise fun x y => Op.bytesLess (bts (kb y)) (bts (kb x)) = false := by
  have hmem : xs.head hne ∈ xs := List.head_mem hne
  letI : Inhabited (Mem xs) := ⟨⟨_, hmem⟩⟩
  have hsz : (arr xs).size = xs.length := arr_size
  have hval : (arr xs).toList.map Subtype.val = xs := by unfold arr; simp
  have hH := holds_row (α := Mem xs) Subtype.val (d := arr xs) hval hr
  have eg : ∀ args w, (callFunc 23 args).run Try.prog w = .ok (.enter 23 args) w := enters_of Try.func23 (by kernel_rfl) rfl
  have hlo : ∀ x y : Mem xs, ltOf (fun x y : Mem xs => cmpB (kb x.1) (kb y.1)) x y = Op.bytesLess (bts (kb x.1)) (bts (kb y.1)) := fun x y => by
    unfold ltOf
    rw [Bool.eq_iff_iff, decide_eq_true_eq, cmp_neg]
  have hO : SWO (ltOf fun x y : Mem xs => cmpB (kb x.1) (kb y.1)) := by
    refine ⟨fun x => ?_, fun x y z h1 h2 => ?_, fun x y z h1 h2 => ?_⟩
    · rw [hlo]; exact bl_irr _
    · rw [hlo] at h1 h2 ⊢; exact bl_trans h1 h2
    · rw [hlo] at h1 h2 ⊢; exact bl_ntrans h1 h2
  have hcmp : CmpLays Try.prog 23 #[] (fun x : Mem xs => x.1.vs) 2 (fun x y => cmpB (kb x.1) (kb y.1)) g 0 (arr xs).size w := by
    intro m os dk hdk x y
    have gW := gx_putRow (fun x : Mem xs => x.1.vs) 2 w g 0 m dk os
    generalize sortWorldK (fun x : Mem xs => x.1.vs) 2 w g 0 m dk os = W at gW ⊢
    have b1 := hkey x.1 x.2 W (gW.wide fun k _ e => .inl e)
    have b2 := hkey y.1 y.2 W (gW.wide fun k _ e => .inl e)
    have hc := history_pairs_1.calls (pairs1_spec (n := n) (vA := x.1.vA) (vl := x.1.vl) (vc := x.1.vc) (vB := y.1.vA) (wl := y.1.vl) (wc := y.1.vc) b1 b2)
    refine Calls.mono hc fun e w' ⟨he, hw⟩ => ⟨he, 0, #[.cells #[.slice x.1.kA x.1.kl x.1.kc, .slice x.1.vA x.1.vl x.1.vc] 33] ++ #[.cells #[.slice y.1.kA y.1.kl y.1.kc, .slice y.1.vA y.1.vl y.1.vc] 33], ?_⟩
    rw [hw, alloc_eq_grow, alloc_eq_grow, grow_grow]; rfl
  have hcon := AnyQ.slices_SortFunc laid 2 Try.isAgg33 Try.sizeOf33 (fun x : Mem xs => x.1.vs) (fun _ => rfl) (fun x v hv => by simp [PV.vs] at hv; rcases hv with rfl | rfl <;> rfl) (fun x y => cmpB (kb x.1) (kb y.1)) hO 23 #[] g 0 c (arr xs) w eg hcmp hH hlt (by rw [hsz]; omega)
  rw [hsz] at hcon
  refine Calls.mono hcon fun e w' ⟨he, d', k, os, hp, hs, hw⟩ => ⟨he, fun ys hys => ?_⟩
  subst hw
  have hd' : d'.size = xs.length := hp.1.trans hsz
  have hH' := holdsK_sortWorldK (fun x : Mem xs => x.1.vs) 2 w g 0 k (arr xs) d' os hlt hH (by rw [hd', hsz])
  rw [← hd'] at hys
  have e1 := rd_row (α := Mem xs) Subtype.val hH' hys
  subst e1
  refine ⟨?_, ?_⟩
  · have h3 := hp.2.2
    have x1 : d'.extract 0 xs.length = d' := by rw [← hd']; simp
    have x2 : (arr xs).extract 0 xs.length = arr xs := by rw [← hsz]; simp
    rw [x1, x2] at h3
    have := h3.map Subtype.val
    rwa [hval] at this
  · rw [List.pairwise_map, List.pairwise_iff_getElem]
    intro i j hi hj hij
    have h4 := hs i j (Nat.zero_le _) hij (by rw [← hd']; simpa using hj)
    rw [hlo, getElem!_pos d' j (by simpa using hj), getElem!_pos d' i (by simpa using hi)] at h4
    simpa using h4
theorem Sort_spec (hn : 2 ^ 60 < n) {A : Option Addr} {l : Nat} {kb : PV → List Int} (hr : Row2 w base A l c xs) (hl : l ≤ 511) (hkey : ∀ x ∈ xs, Stb (fun j => On (.slice A l c) j ∨ w.heap.size ≤ j) (fun w => Bv .u8 w x.kA x.kl x.kc (kb x)) w) :
    Rt (api_Pair_22 n [.slice A l c, cmpV] w) fun y => ∃ w' ys, y = ([], w') ∧ Row2 w' base A l c ys ∧ ys.Perm xs ∧ (ys.Pairwise fun x y => Op.bytesLess (bts (kb y)) (bts (kb x)) = false) ∧ Gx (On (.slice A l c)) w w' := by
  have hI : Iv xs kb w w base A l c := ⟨⟨xs, hr, fun x hx => hx⟩, hkey, Gx.rfl' _ _⟩
  obtain ⟨_, e, w', rfl, hI'⟩ := Sort_ends (n := n) hl hn hI
  obtain ⟨ys, hy, _⟩ := hI'.row
  obtain rfl := hr.len
  refine ⟨_, e, w', ys, rfl, hy, ?_⟩
  by_cases hne : xs = []
  · subst hne
    have : ys = [] := List.length_eq_zero_iff.1 hy.len
    subst this
    exact ⟨List.Perm.refl _, List.Pairwise.nil, hI'.gx⟩
  · have hpos : 0 < xs.length := List.length_pos_iff.2 hne
    obtain ⟨g, rfl⟩ := hr.block hpos
    have hlt := (hI.lt g rfl).2
    have h1 := Sort_law (n := n) (kb := kb) hn hr hne hl hlt fun x hx => (hkey x hx).less fun k _ hk => hk.elim (fun e => .inl (by rw [e]; rfl)) .inr
    have h2 := api_Pair_22.calls e
    obtain ⟨v, w2, ⟨_, r1⟩, _, r2⟩ := agree (R := fun v w' => v = .tuple #[] ∧ ∀ ys, Row2 w' base (some ⟨g, 0, none⟩) xs.length c ys → ys.Perm xs ∧ ys.Pairwise fun x y => Op.bytesLess (bts (kb y)) (bts (kb x)) = false)
      (R' := fun v w'' => v = unL [] ∧ w'' = w') (h1.mono fun e w' ⟨he, q⟩ => by subst he; exact ⟨rfl, q⟩) (h2.mono fun e w' ⟨he, q⟩ => by subst he; exact ⟨rfl, q⟩) (by kernel_rfl)
    subst r2
    obtain ⟨p1, p2⟩ := r1 ys hy
    exact ⟨p1, p2, hI'.gx⟩
end
end Go.Proofs.Ytdcdgmiojlldaaa.Hi
