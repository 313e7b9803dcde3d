/- packed by slim.py -/
import Derived.Test.YtdcdgmiojlldaaaDoorZP10
/- Rows of structs that stay readable while other blocks of the call's own are written. -/
namespace Go.Proofs.YtdcdgmiojlldaaaDoor.Big
open Go Go.RowKit
set_option linter.unusedVariables false
set_option linter.unusedSimpArgs false
section
variable {α γ : Type} {E : El γ} {Q : α → Prop} {P : Program} {t e : TypeId} {w w' w0 : World} {base : Nat} {v : Value} {xs ys : List γ} {S S' : Nat → Prop} {i : TypeInfo} {z : Value} {A : Option Addr} {l c n d : Nat}
theorem Rt.app1X {sz : Nat} (hz : E.sz = sz) (hT : SlTE P t e sz i z) {ty : TypeId} (ho : OwnX S E e w base v xs) {us : List Value} {x : γ} (hul : us.length = sz) (hx : Stb (fun k => S k ∨ On v k) (fun w => E.rd w us x) w) (hn : xs.length + 1 ≤ 2 ^ 36) (hb : base ≤ w.heap.size)
    {f : Value → World → Option α} (h : ∀ A c w', OwnX S E e w' base (.slice A (xs.length + 1) c) (xs ++ [x]) → Gx (On v) w w' → w.heap.size < w'.heap.size → Rt (f (.slice A (xs.length + 1) c) w') Q) :
    Rt (Big.al w us.toArray e fun w1 => rn P (Builtin.append_ #[t, t] ty #[v, .slice (some ⟨w.heap.size, 0, none⟩) 1 1]) w1 f) Q :=
  Rt.al fun w1 l1 k1 s1 => Rt.app1L hz hT (ho.kp k1) l1 hul (hx.kp k1) hn (Nat.le_trans hb k1.size) fun A c w' o g s => h A c w' o (k1.gx.tr g) (Nat.lt_of_lt_of_le s1 s)
theorem OwnX.stb (h : OwnX S E e w base (.slice A l c) xs) (hn : ∀ k, S k → k < base) : Stb S (fun w => Ev E w A l c xs) w := fun w' hg =>
  (h.gx hg (fun _ _ h => h) fun k hk hv => by have := (h.lt k hv).1; have := hn k hk; omega).ownE.ev
theorem Rt.app1fL {sz : Nat} (hz : E.sz = sz) (hT : SlTE P t e sz i z) {ty : TypeId} (ho : OwnE E e w base v xs) {us : List Value} {x : γ} {b : Nat} (hL : Lc w b us) (hl : us.length = sz) (hx : Stb (On v) (fun w => E.rd w us x) w) (hn : xs.length + 1 ≤ 2 ^ 36) (hb : base ≤ w.heap.size)
    {f : Value → World → Option α} (h : ∀ A c w', OwnE E e w' base (.slice A (xs.length + 1) c) (xs ++ [x]) → Gx (On v) w w' → (∀ j, On (.slice A (xs.length + 1) c) j → On v j ∨ w.heap.size ≤ j) → Rt (f (.slice A (xs.length + 1) c) w') Q) :
    Rt (rn P (Builtin.append_ #[t, t] ty #[v, .slice (some ⟨b, 0, none⟩) 1 1]) w f) Q := by
  subst hz
  have hr : Stb (On v) (fun w => Rows E w us [x]) w := fun w' hg => Rows.one (hx w' hg) hl
  obtain ⟨v', w', h1, h2, h3, h4⟩ := append_runE (c := 1) (A := some ⟨b, 0, none⟩) hT ty ho (m := 1) (ys := [x]) (news := us) rfl (fun h => by cases h) (fun a ha j u hj => by injection ha with ha; subst ha; rw [Addr.add_lit, Nat.zero_add, hL.ld]; exact hj) hr.out.ones hr hn hb
  rw [h1]
  obtain ⟨A, c, rfl, _⟩ := h2.slice
  have hl : (xs ++ [x]).length = xs.length + 1 := by rw [List.length_append]; rfl
  rw [hl] at h2 h4 ⊢
  refine h A c w' h2 ((Gx.of_grown h3).wide fun k _ e => e) (fun j hj => ?_)
  have hj : (Value.slice A (xs.length + 1) c).ownBlock = some j := hj
  rcases h4 with h4 | h4
  · exact .inl (by rw [h4] at hj; exact hj)
  · rw [h4] at hj; injection hj with hj; exact .inr (by omega)
theorem Rt.jmX {x : Option Res} {f : List Value → World → Option Res} {Q : Res → Prop} (h : Rt x fun r => r.ex = .norm ∧ Rt (f r.vals r.w) Q ∨ r.ex ≠ .norm ∧ Q r) : Rt (Big.jm x f) Q := by
  obtain ⟨⟨ex, vs, w⟩, rfl, ⟨h1, h2⟩ | ⟨h1, h2⟩⟩ := h
  · cases h1; exact h2
  · cases ex
    · exact absurd rfl h1
    · exact ⟨_, rfl, h2⟩
    · exact ⟨_, rfl, h2⟩
theorem Rt.of_eq {x y : Option α} (e : x = y) (h : Rt x Q) : Rt y Q := e ▸ h
theorem Lc.dr' {b : Nat} {l : List Value} (h : Lc w b l) : Lc w.drew b l := h.kp (Kp.rfl' w).dr
theorem Rt.ldn {b j : Nat} {l : List Value} {x : Value} {f : Value → Option α} (hl : Lc w b l) (hx : l[j]? = some x) (h : Rt (f x) Q) : Rt (opt (w.cell? (Addr.add ⟨b, 0, none⟩ j)) f) Q :=
  Rt.ol (by rw [Addr.add_lit, Nat.zero_add, hl.ld]; exact hx) h
theorem Rt.stn {b j : Nat} {l : List Value} {x : Value} {f : World → Option α} (hl : Lc w b l) (hj : j < l.length) (h : ∀ w1, Lc w1 b (l.set j x) → Gx (fun k => k = b) w w1 → Rt (f w1) Q) : Rt (stC w (Addr.add ⟨b, 0, none⟩ j) x f) Q := by
  obtain ⟨h1, h2, h3⟩ := hl.st j hj x
  rw [Addr.add_lit, Nat.zero_add, h3]; exact h _ h1 h2
end
end Go.Proofs.YtdcdgmiojlldaaaDoor.Big
/- What the functions of package crc compute. -/
namespace Go.Proofs.YtdcdgmiojlldaaaDoor.Crc
open Go Big Go.RowKit Go.IntWalk
set_option linter.unusedVariables false
set_option linter.unusedSimpArgs false
theorem cFin {x : Bool} {α : Type} {a b : α} (h : x = true) : cond x a b = a := by rw [h]; rfl
theorem cFalse {x : Bool} {α : Type} {a b : α} (h : x = false) : cond x a b = b := by rw [h]; rfl
def one (x : Int) : Int := cond ((bits .and .u32 x 1) == 1) (bits .xor .u32 (Int.fdiv x (2 ^ 1)) 2197175160) (Int.fdiv x (2 ^ 1))
def many : Nat → Int → Int
  | 0, x => x
  | n + 1, x => many n (one x)
def tab : List Int := (List.range 256).map fun (i : Nat) => many 8 (i : Int)
theorem tab_len : tab.length = 256 := by simp [tab]
theorem tab_get {i : Nat} (h : i < 256) : tab.getD i 0 = many 8 i := by simp [tab, List.getD_eq_getElem?_getD, h]
section
variable {n : Nat} {w : World}
theorem Table_l1 (A : Option Addr) (l c : Nat) (y z u : Int) : ∀ (j k m : Nat) (x : Int), j + k = 8 → k < m → crc_Table.l1 n m A l c y x z u (j : Int) w = some ⟨.exit 2, [.slice A l c, .int .i64 y, .int .u32 (many k x), .int .i64 z, .int .i64 u], w⟩ := by
  intro j k
  induction k generalizing j with
  | zero =>
    intro m x hj hm
    obtain ⟨m, rfl⟩ : ∃ m', m = m' + 1 := ⟨m - 1, by omega⟩
    rw [crc_Table.l1_succ, cFalse (by simp; omega)]
    rfl
  | succ k ih =>
    intro m x hj hm
    obtain ⟨m, rfl⟩ : ∃ m', m = m' + 1 := ⟨m - 1, by omega⟩
    rw [crc_Table.l1_succ, cFin (by simp; omega)]
    have hi : IntKind.i64.wrap ((j : Int) + 1) = ((j + 1 : Nat) : Int) := by rw [i64_in _ (by omega)]; omega
    have e := fun x => ih (j + 1) m x (by omega) (by omega)
    unfold many one
    cases hb : ((bits .and .u32 x 1) == 1)
    · simp only [cond_false, jb_norm, tC_mk, tL_mk, tI_mk, tN_mk, hi]; exact e _
    · simp only [cond_true, jb_norm, tC_mk, tL_mk, tI_mk, tN_mk, hi]; exact e _
theorem slT34 : ∃ i, SlT Tryd.prog 100 122 .u32 i := slT (by kernel_rfl)
theorem Table_l0 (hn : 300 ≤ n) (base : Nat) (A : Option Addr) (c : Nat) : ∀ (j k m : Nat) (xs : List Int) (w : World), j + k = 256 → k < m → Own .u32 122 w base (.slice A 256 c) xs → (∀ i, i < j → xs.getD i 0 = many 8 i) → xs.length = 256 →
    ∃ w', crc_Table.l0 n m A 256 c 256 (j : Int) w = some ⟨.exit 0, [.slice A 256 c], w'⟩ ∧ Own .u32 122 w' base (.slice A 256 c) tab ∧ (∀ w0 : World, Kp w0 w → w0.heap.size ≤ base → Kp w0 w') := by
  intro j k
  induction k generalizing j with
  | zero =>
    intro m xs w hj hm ho hx hl
    obtain ⟨m, rfl⟩ : ∃ m', m = m' + 1 := ⟨m - 1, by omega⟩
    refine ⟨w, by rw [crc_Table.l0_succ, cFalse (by simp; omega)], ?_, fun w0 h _ => h⟩
    have : xs = tab := by
      apply List.ext_getElem (by rw [hl, tab_len])
      intro i h1 h2
      have := hx i (by omega)
      rw [← tab_get (by omega), List.getD_eq_getElem?_getD, List.getD_eq_getElem?_getD, List.getElem?_eq_getElem h1, List.getElem?_eq_getElem h2] at this
      simpa using this
    rw [← this]; exact ho
  | succ k ih =>
    intro m xs w hj hm ho hx hl
    obtain ⟨m, rfl⟩ : ∃ m', m = m' + 1 := ⟨m - 1, by omega⟩
    have h1 := Table_l1 (n := n) (w := w) A 256 c (j : Int) 256 (j : Int) 0 8 n (IntKind.u32.wrap j) rfl (by omega)
    obtain ⟨a, w', rfl, hb, hw', ho', hg, hst⟩ := ho.store (i := (j : Int)) (by omega) (by omega) (many 8 (IntKind.u32.wrap j))
    have hi : IntKind.i64.wrap ((j : Int) + 1) = ((j + 1 : Nat) : Int) := by rw [i64_in _ (by omega)]; omega
    have hu : IntKind.u32.wrap (j : Int) = j := u32_in _ (by omega)
    obtain ⟨w2, h2, h3, h4⟩ := ih (j + 1) m (xs.set j (many 8 j)) w' (by omega) (by omega) (by simpa [hu] using ho') (fun i hi => by
      by_cases hij : i = j
      · subst hij; simp [List.getD_eq_getElem?_getD, hl, show i < 256 by omega]
      · have := hx i (by omega)
        rw [List.getD_eq_getElem?_getD] at this ⊢
        rw [List.getElem?_set_ne (by omega)]; exact this) (by simp [hl])
    refine ⟨w2, ?_, h3, fun w0 h h' => h4 w0 ?_ h'⟩
    · have h1' : crc_Table.l1 n n (some a) 256 c (j : Int) (IntKind.u32.wrap (j : Int)) 256 (j : Int) 0 w = _ := h1
      rw [crc_Table.l0_succ, cFin (by simp; omega), h1', jb_exit]
      simp only [tC_mk, tL_mk, tI_mk, tN_mk, hi]
      rw [← h2]
      exact hst _
    · rw [hw']; exact h.st (by simpa [Addr.add] using (by split <;> simpa using Nat.le_trans h' hb)) _
theorem Table_spec (hn : 300 ≤ n) (w : World) : ∃ A c w', crc_Table n [] w = some ([.slice A 256 c], w') ∧ Own .u32 122 w' w.heap.size (.slice A 256 c) tab ∧ Kp w w' := by
  obtain ⟨i, hT⟩ := slT34
  obtain ⟨w1, h1, h2, h3⟩ := make_run hT w 256 (by decide)
  obtain ⟨w2, h4, h5, h6⟩ := Table_l0 (n := n) hn w.heap.size _ 256 0 256 n (List.replicate 256 0) w1 rfl (by omega) h2 (by intro i hi; omega) List.length_replicate
  refine ⟨_, _, w2, ?_, h5, h6 w h3 (Nat.le_refl _)⟩
  have h1' := fun (f : Value → World → Option Res) => h1 f
  have h4' : crc_Table.l0 n n (some ⟨w.heap.size, 0, none⟩) 256 256 256 0 w1 = _ := h4
  rw [crc_Table_eq]
  have e : ((256 : Nat) : Int) = 256 := rfl
  rw [e] at h1'
  rw [h1']
  simp only [tL_mk, e]
  rw [h4', jb_exit]
  rfl
def sumG (t : List Int) : List Int → Int → Int
  | [], x => x
  | b :: bs, x => sumG t bs (bits .xor .u32 (Int.fdiv x (2 ^ 8)) (t.getD (bits .xor .u8 (IntKind.u8.wrap x) b).toNat 0))
def sum (b : List Int) : Int := bits .xor .u32 4294967295 (sumG tab b 4294967295)
theorem u8_range (op : BinOp) (x y : Int) : 0 ≤ bits op .u8 x y ∧ bits op .u8 x y < 256 := by
  unfold bits
  rw [IntKind.wrap_u8]
  omega
theorem Sum_l0 (A : Option Addr) (c : Nat) (t : List Int) (ht : Sl .u32 w A 256 t) (B : Option Addr) (l d : Nat) (b : List Int) (hb : Sl .u8 w B l b) (hl : l < 2 ^ 50) :
    ∀ (k j m : Nat) (x : Int), j + k = l → k < m → crc_Sum.l0 n m A 256 c x B l d (l : Int) (j : Int) w = some ⟨.exit 0, [.int .u32 (sumG t (b.drop j) x)], w⟩ := by
  intro k
  induction k with
  | zero =>
    intro j m x hj hm
    obtain ⟨m, rfl⟩ : ∃ m', m = m' + 1 := ⟨m - 1, by omega⟩
    rw [crc_Sum.l0_succ, cFalse (by simp; omega), List.drop_of_length_le (by rw [hb.1]; omega)]
    rfl
  | succ k ih =>
    intro j m x hj hm
    obtain ⟨m, rfl⟩ : ∃ m', m = m' + 1 := ⟨m - 1, by omega⟩
    have hi : IntKind.i64.wrap ((j : Int) + 1) = ((j + 1 : Nat) : Int) := by rw [i64_in _ (by omega)]; omega
    have hlen : j < b.length := by rw [hb.1]; omega
    rw [crc_Sum.l0_succ, cFin (by simp; omega), hb.ix (by omega) (by omega), hi, Int.toNat_natCast, ht.ix (u8_range _ _ _).1 (u8_range _ _ _).2, ih (j + 1) m _ (by omega) (by omega)]
    rw [List.drop_eq_getElem_cons hlen, sumG]
    simp [List.getD_eq_getElem?_getD, hlen]
theorem Sum_spec (hn : 300 ≤ n) (hn2 : 2 ^ 50 < n) (A : Option Addr) (c : Nat) (t : List Int) (ht : Sl .u32 w A 256 t) (B : Option Addr) (l d : Nat) (b : List Int) (hb : Sl .u8 w B l b) (hl : l < 2 ^ 50) :
    crc_Sum n [.slice A 256 c, .slice B l d] w = some ([.int .u32 (bits .xor .u32 4294967295 (sumG t b 4294967295))], w) := by
  have h := Sum_l0 (n := n) A c t ht B l d b hb hl l 0 n 4294967295 (by omega) (by omega)
  have h : crc_Sum.l0 n n A 256 c 4294967295 B l d (l : Int) 0 w = _ := h
  rw [crc_Sum_eq]
  simp only [bne_self_eq_false, cond_false, jm_norm, tC_mk, tL_mk, tN_mk, show (((256 : Nat) : Int) != 256) = false from rfl]
  rw [h, jb_exit]
  rfl
end
end Go.Proofs.YtdcdgmiojlldaaaDoor.Crc
/- The sum as a walk over bit vectors; what the reference's sum comes to; masks. -/
namespace Go.Proofs.YtdcdgmiojlldaaaDoor.Crc
open Go Big Go.RowKit Go.IntWalk
set_option linter.unusedVariables false
set_option linter.unusedSimpArgs false
def poly : BitVec 32 := 2197175160#32
def oneB (x : BitVec 32) : BitVec 32 := cond (x.getLsbD 0) ((x >>> 1) ^^^ poly) (x >>> 1)
def manyB : Nat → BitVec 32 → BitVec 32
  | 0, x => x
  | n + 1, x => manyB n (oneB x)
abbrev I (x : BitVec 32) : Int := (x.toNat : Int)
abbrev J (x : BitVec 8) : Int := (x.toNat : Int)
theorem xor32 (a b : BitVec 32) : bits .xor .u32 (I a) (I b) = I (a ^^^ b) := by
  unfold bits
  simp only [IntKind.bits, BitVec.ofInt_natCast]
  have e : ∀ x : BitVec 32, BitVec.ofNat 32 x.toNat = x := fun x => by simp
  show IntKind.u32.wrap (((BitVec.ofNat 32 a.toNat ^^^ BitVec.ofNat 32 b.toNat).toNat : Nat) : Int) = _
  rw [e a, e b]
  have := (a ^^^ b).isLt
  exact u32_in _ (by omega)
theorem and32 (a b : BitVec 32) : bits .and .u32 (I a) (I b) = I (a &&& b) := by
  unfold bits
  simp only [IntKind.bits, BitVec.ofInt_natCast]
  have e : ∀ x : BitVec 32, BitVec.ofNat 32 x.toNat = x := fun x => by simp
  show IntKind.u32.wrap (((BitVec.ofNat 32 a.toNat &&& BitVec.ofNat 32 b.toNat).toNat : Nat) : Int) = _
  rw [e a, e b]
  have := (a &&& b).isLt
  exact u32_in _ (by omega)
theorem xor8 (a b : BitVec 8) : bits .xor .u8 (J a) (J b) = J (a ^^^ b) := by
  unfold bits
  simp only [IntKind.bits, BitVec.ofInt_natCast]
  have e : ∀ x : BitVec 8, BitVec.ofNat 8 x.toNat = x := fun x => by simp
  show IntKind.u8.wrap (((BitVec.ofNat 8 a.toNat ^^^ BitVec.ofNat 8 b.toNat).toNat : Nat) : Int) = _
  rw [e a, e b]
  have := (a ^^^ b).isLt
  exact u8_in _ (by omega)
theorem shr32 (a : BitVec 32) (k : Nat) : Int.fdiv (I a) (2 ^ k) = I (a >>> k) := by
  rw [Int.fdiv_eq_ediv_of_nonneg _ (Int.le_of_lt (Int.pow_pos (by decide)))]
  show ((a.toNat : Int)) / 2 ^ k = ((a >>> k).toNat : Int)
  rw [BitVec.toNat_ushiftRight, Nat.shiftRight_eq_div_pow, Int.natCast_ediv, Int.natCast_pow]; rfl
theorem wrap8 (a : BitVec 32) : IntKind.u8.wrap (I a) = J (a.setWidth 8) := by
  rw [IntKind.wrap_u8]
  show (a.toNat : Int) % 256 = ((a.setWidth 8).toNat : Int)
  rw [BitVec.toNat_setWidth]; omega
theorem low_bit (x : BitVec 32) : ((bits .and .u32 (I x) 1) == 1) = x.getLsbD 0 := by
  have h1 : (1 : Int) = I 1#32 := rfl
  rw [h1, and32]
  have e : (x &&& 1#32).toNat = x.toNat % 2 := by rw [BitVec.toNat_and]; exact Nat.and_one_is_mod _
  have e2 : x.getLsbD 0 = decide (x.toNat % 2 = 1) := by rw [BitVec.getLsbD, Nat.testBit_zero]
  rw [e2]
  show ((((x &&& 1#32).toNat : Nat) : Int) == ((1 : Nat) : Int)) = _
  rw [e, Bool.eq_iff_iff]
  simp; omega
theorem one_I (x : BitVec 32) : one (I x) = I (oneB x) := by
  unfold one oneB
  rw [low_bit, shr32]
  cases x.getLsbD 0
  · rfl
  · have h : (2197175160 : Int) = I poly := rfl
    rw [h, cond_true, cond_true, xor32]
theorem many_I : ∀ (n : Nat) (x : BitVec 32), many n (I x) = I (manyB n x)
  | 0, x => rfl
  | n + 1, x => by rw [many, one_I, many_I n, manyB]
theorem oneB_xor (a b : BitVec 32) : oneB (a ^^^ b) = oneB a ^^^ oneB b := by
  have hs : (a ^^^ b) >>> 1 = a >>> 1 ^^^ b >>> 1 := BitVec.ushiftRight_xor_distrib ..
  unfold oneB
  rw [BitVec.getLsbD_xor, hs]
  generalize a >>> 1 = u
  generalize b >>> 1 = v
  generalize poly = p
  cases a.getLsbD 0 <;> cases b.getLsbD 0 <;> simp only [cond_true, cond_false, Bool.xor_true, Bool.xor_false, Bool.not_true, Bool.not_false, Bool.false_xor, Bool.true_xor]
  · ac_rfl
  · ac_rfl
  · rw [show u ^^^ p ^^^ (v ^^^ p) = (u ^^^ v) ^^^ (p ^^^ p) by ac_rfl, BitVec.xor_self, BitVec.xor_zero]
theorem manyB_xor : ∀ (n : Nat) (a b : BitVec 32), manyB n (a ^^^ b) = manyB n a ^^^ manyB n b
  | 0, _, _ => rfl
  | n + 1, a, b => by rw [manyB, oneB_xor, manyB_xor n]; rfl
theorem manyB_shift : ∀ (k : Nat) (v : BitVec 32) (u : Nat), v.toNat = 2 ^ k * u → (manyB k v).toNat = u
  | 0, v, u, h => by show v.toNat = u; simpa using h
  | k + 1, v, u, h => by
    refine manyB_shift k (oneB v) u ?_
    have h2 : v.toNat = 2 * (2 ^ k * u) := by rw [h, Nat.pow_succ]; ac_rfl
    unfold oneB
    have hb : v.getLsbD 0 = false := by rw [BitVec.getLsbD, Nat.testBit_zero, decide_eq_false_iff_not]; omega
    rw [hb, cond_false, BitVec.toNat_ushiftRight, Nat.shiftRight_eq_div_pow]
    omega
def stepB (s : BitVec 32) (b : BitVec 8) : BitVec 32 := manyB 8 (s ^^^ b.setWidth 32)
theorem step_table (x : BitVec 32) (b : BitVec 8) : (x >>> 8) ^^^ manyB 8 ((x.setWidth 8 ^^^ b).setWidth 32) = stepB x b := by
  have e : x ^^^ b.setWidth 32 = ((x >>> 8) <<< 8) ^^^ ((x.setWidth 8 ^^^ b).setWidth 32) := by
    apply BitVec.eq_of_getLsbD_eq
    intro i hi
    simp only [BitVec.getLsbD_xor, BitVec.getLsbD_setWidth, BitVec.getLsbD_shiftLeft, BitVec.getLsbD_ushiftRight]
    by_cases h8 : i < 8
    · simp [h8, hi, show i < 32 from hi]
    · have : b.getLsbD i = false := BitVec.getLsbD_of_ge b i (by omega)
      simp [h8, this, hi, show i < 32 from hi, show 8 + (i - 8) = i by omega]
  unfold stepB
  rw [e, manyB_xor]
  congr 1
  apply BitVec.eq_of_toNat_eq
  symm
  apply manyB_shift
  rw [BitVec.toNat_shiftLeft, BitVec.toNat_ushiftRight, Nat.shiftLeft_eq, Nat.shiftRight_eq_div_pow]
  have := x.isLt
  omega
def runB (s : BitVec 32) : List (BitVec 8) → BitVec 32
  | [] => s
  | b :: bs => runB (stepB s b) bs
theorem sumG_I : ∀ (bs : List (BitVec 8)) (s : BitVec 32), sumG tab (bs.map J) (I s) = I (runB s bs)
  | [], s => rfl
  | b :: bs, s => by
    rw [List.map_cons, sumG, shr32, wrap8, xor8, Int.toNat_natCast, tab_get (BitVec.isLt _)]
    have e : (((s.setWidth 8 ^^^ b).toNat : Nat) : Int) = I ((s.setWidth 8 ^^^ b).setWidth 32) := by
      have := (s.setWidth 8 ^^^ b).isLt
      show _ = (((s.setWidth 8 ^^^ b).setWidth 32).toNat : Int)
      rw [BitVec.toNat_setWidth]; omega
    rw [e, many_I, xor32, step_table, sumG_I bs]; rfl
def top : BitVec 32 := 4294967295#32
theorem sum_I (bs : List (BitVec 8)) : sum (bs.map J) = I (top ^^^ runB top bs) := by
  have e : (4294967295 : Int) = I top := rfl
  unfold sum
  rw [e, sumG_I, xor32]
theorem bytes_of {xs : List Int} (h : ∀ x ∈ xs, 0 ≤ x ∧ x ≤ 255) : ∃ bs : List (BitVec 8), xs = bs.map J := by
  induction xs with
  | nil => exact ⟨[], rfl⟩
  | cons x xs ih =>
    obtain ⟨bs, hb⟩ := ih fun y hy => h y (List.mem_cons_of_mem _ hy)
    have := h x List.mem_cons_self
    refine ⟨BitVec.ofNat 8 x.toNat :: bs, ?_⟩
    rw [List.map_cons, ← hb]
    congr 1
    show x = ((BitVec.ofNat 8 x.toNat).toNat : Int)
    rw [BitVec.toNat_ofNat]; omega
theorem step_l0 {n : Nat} {w : World} : ∀ (k j m : Nat) (x : Int), j + k = 8 → k < m → butteryref1_step.l0 n m x (j : Int) w = some ⟨.exit 0, [.int .u32 (many k x)], w⟩ := by
  intro k
  induction k with
  | zero =>
    intro j m x hj hm
    obtain ⟨m, rfl⟩ : ∃ m', m = m' + 1 := ⟨m - 1, by omega⟩
    rw [butteryref1_step.l0_succ, cF (by simp; omega)]
    rfl
  | succ k ih =>
    intro j m x hj hm
    obtain ⟨m, rfl⟩ : ∃ m', m = m' + 1 := ⟨m - 1, by omega⟩
    rw [butteryref1_step.l0_succ, cT (by simp; omega)]
    have hi : IntKind.i64.wrap ((j : Int) + 1) = ((j + 1 : Nat) : Int) := by rw [i64_in _ (by omega)]; omega
    have e := fun x => ih (j + 1) m x (by omega) (by omega)
    unfold many one
    cases hb : ((bits .and .u32 x 1) == 1)
    · rw [cF (x := false) rfl, jb_norm, tC_mk, tI_mk, tC_mk, tI_mk, tN_mk, hi, cF (x := false) rfl]; exact e _
    · rw [cT (x := true) rfl, jb_norm, tC_mk, tI_mk, tC_mk, tI_mk, tN_mk, hi, cT (x := true) rfl]; exact e _
theorem step_spec {n : Nat} (hn : 300 ≤ n) (x : Int) (w : World) : butteryref1_step n [.int .u32 x] w = some ([.int .u32 (many 8 x)], w) := by
  have h : butteryref1_step.l0 n n x 0 w = _ := step_l0 8 0 n x rfl (by omega)
  rw [butteryref1_step_eq, h, jb_exit, tC_mk, tI_mk, tN_mk, fin_ret]
theorem and255 (x : BitVec 32) (b : BitVec 8) : bits .and .u32 (bits .xor .u32 (I x) (IntKind.u32.wrap (J b))) 255 = I ((x.setWidth 8 ^^^ b).setWidth 32) := by
  have hb := b.isLt
  have e1 : IntKind.u32.wrap (J b) = I (b.setWidth 32) := by
    rw [u32_in (J b) (by show (0:Int) ≤ (b.toNat : Int) ∧ (b.toNat : Int) ≤ 4294967295; omega)]
    show (b.toNat : Int) = ((b.setWidth 32).toNat : Int)
    rw [BitVec.toNat_setWidth]; omega
  have e2 : (255 : Int) = I 255#32 := rfl
  rw [e1, xor32, e2, and32]
  congr 1
  apply BitVec.eq_of_toNat_eq
  rw [BitVec.toNat_and, BitVec.toNat_xor, BitVec.toNat_setWidth, BitVec.toNat_setWidth, BitVec.toNat_xor, BitVec.toNat_setWidth]
  have e3 : (255#32).toNat = 2 ^ 8 - 1 := rfl
  have h1 : (x.toNat ^^^ b.toNat) % 2 ^ 8 = x.toNat % 2 ^ 8 ^^^ b.toNat := by rw [Nat.xor_mod_two_pow, Nat.mod_eq_of_lt hb]
  have h2 : x.toNat % 2 ^ 8 ^^^ b.toNat < 2 ^ 8 := Nat.xor_lt_two_pow (Nat.mod_lt _ (by decide)) hb
  have h3 : (x.toNat % 2 ^ 8 ^^^ b.toNat) % 2 ^ 32 = x.toNat % 2 ^ 8 ^^^ b.toNat := Nat.mod_eq_of_lt (by omega)
  rw [e3, Nat.and_two_pow_sub_one_eq_mod, Nat.mod_eq_of_lt (show b.toNat < 2 ^ 32 by omega), h1, h3]
theorem Crc_l0 {n : Nat} (hn : 300 ≤ n) {w : World} {B : Option Addr} {l d : Nat} {bs : List (BitVec 8)} (hb : Sl .u8 w B l (bs.map J)) (hl : l < 2 ^ 40) :
    ∀ (k j m : Nat) (x : BitVec 32), j + k = l → k < m → butteryref1_Crc.l0 n m B l d (I x) (j : Int) w = some ⟨.exit 0, [.int .u32 (I (runB x (bs.drop j)))], w⟩ := by
  have hlen : bs.length = l := by have := hb.1; simpa using this
  intro k
  induction k with
  | zero =>
    intro j m x hj hm
    obtain ⟨m, rfl⟩ : ∃ m', m = m' + 1 := ⟨m - 1, by omega⟩
    rw [butteryref1_Crc.l0_succ, cF (by simp; omega), List.drop_of_length_le (by omega)]
    rfl
  | succ k ih =>
    intro j m x hj hm
    obtain ⟨m, rfl⟩ : ∃ m', m = m' + 1 := ⟨m - 1, by omega⟩
    have hi : IntKind.i64.wrap ((j : Int) + 1) = ((j + 1 : Nat) : Int) := by rw [i64_in _ (by omega)]; omega
    have hj' : j < bs.length := by omega
    have e1 : (bs.map J).getD j 0 = J bs[j] := by simp [List.getD_eq_getElem?_getD, hj']
    rw [butteryref1_Crc.l0_succ, cT (by simp; omega), hb.ix (by omega) (by omega), hi, Int.toNat_natCast, e1, and255, step_spec hn, cl1I, many_I, shr32, xor32, step_table, ih (j + 1) m _ (by omega) (by omega)]
    rw [List.drop_eq_getElem_cons hj', runB]
theorem Crc_spec {n : Nat} (hn : 2 ^ 50 < n) {w : World} {B : Option Addr} {l d : Nat} {b : List Int} (hb : Sl .u8 w B l b) (wb : ∀ x ∈ b, 0 ≤ x ∧ x ≤ 255) (hl : l < 2 ^ 40) :
    butteryref1_Crc n [.slice B l d] w = some ([.int .u32 (sum b)], w) := by
  obtain ⟨bs, rfl⟩ := bytes_of wb
  have h : butteryref1_Crc.l0 n n B l d 4294967295 0 w = _ := Crc_l0 (n := n) (d := d) (by omega) hb hl l 0 n top (by omega) (by omega)
  rw [butteryref1_Crc_eq, h, jb_exit, tC_mk, tI_mk, tN_mk, fin_ret, sum_I]
  have e : (4294967295 : Int) = I top := rfl
  rw [e, xor32]; rfl
section
variable {n : Nat} {w : World} {A B : Option Addr} {l c m d : Nat} {bs : List Int}
def RTab (w0 : World) : List Value × World → Prop := fun r => ∃ A c w', r = ([.slice A 256 c], w') ∧ Own .u32 122 w' w0.heap.size (.slice A 256 c) tab ∧ Kp w0 w'
theorem Table_rt (hn : 2 ^ 50 < n) : Rt (crc_Table n [] w) (RTab w) := by
  obtain ⟨A, c, w', h1, h2, h3⟩ := Table_spec (n := n) (by omega) w
  exact Rt.of h1 ⟨A, c, w', rfl, h2, h3⟩
theorem Sum_rt (hn : 2 ^ 50 < n) (ht : Sl .u32 w A 256 tab) (hb : Sl .u8 w B l bs) (hl : l < 2 ^ 50) : Rt (crc_Sum n [.slice A 256 c, .slice B l d] w) (RI .u32 (sum bs) w) :=
  Rt.of (Sum_spec (n := n) (by omega) hn A c tab ht B l d bs hb hl) ⟨w, rfl, Kp.rfl' w⟩
end
def mask (x : Int) : Int := IntKind.u32.wrap ((bits .or .u32 (Int.fdiv x (2 ^ 15)) (IntKind.u32.wrap (x * 2 ^ 17))) + 2726488792)
theorem mask_range (x : Int) : 0 ≤ mask x ∧ mask x < 2 ^ 32 := by
  unfold mask
  rw [IntKind.wrap_u32]
  omega
theorem Mask_spec {n : Nat} (x : Int) (w : World) : crc_Mask n [.int .u32 x] w = some ([.int .u32 (mask x)], w) := by rw [crc_Mask_eq, fin_ret, mask]
theorem RMask_spec {n : Nat} (x : Int) (w : World) : butteryref1_Mask n [.int .u32 x] w = some ([.int .u32 (mask x)], w) := by rw [butteryref1_Mask_eq, fin_ret, mask]
end Go.Proofs.YtdcdgmiojlldaaaDoor.Crc

/- Frames, in plain lists: what is written of a record, what is read of any bytes. -/
namespace Go.Proofs.YtdcdgmiojlldaaaDoor.Fr
open Go Big Go.RowKit Go.IntWalk
set_option linter.unusedVariables false
set_option linter.unusedSimpArgs false
set_option linter.unusedSectionVars false
abbrev Bytes (xs : List Int) : Prop := ∀ x ∈ xs, (Lit.int .u8 x).wf = true
section
variable {sm : List Int → Int}
def pc (sm : List Int → Int) (k : Int) (x : List Int) : List Int := lowB 4 (sm (k :: x)) ++ (lowB 2 x.length ++ k :: x)
theorem pc_len (k : Int) (x : List Int) : (pc sm k x).length = 7 + x.length := by
  rw [pc, List.length_append, List.length_append, lowB_len, lowB_len, List.length_cons]; omega
def kdN : Bool → Bool → Int
  | true, true => 1
  | true, false => 2
  | false, true => 4
  | false, false => 3
inductive Pieces (sm : List Int → Int) : Nat → Bool → List Int → List Int → Prop
  | last {a : Nat} {f : Bool} {r : List Int} (h : r.length ≤ 121 - a) : Pieces sm a f r (pc sm (kdN f true) r)
  | more {a : Nat} {f : Bool} {r out : List Int} (h : 121 - a < r.length) (t : Pieces sm 0 false (r.drop (121 - a)) out) : Pieces sm a f r (pc sm (kdN f false) (r.take (121 - a)) ++ out)
theorem Pieces.total0 : ∀ (m : Nat) (f : Bool) (r : List Int), r.length ≤ m → ∃ out, Pieces sm 0 f r out := by
  intro m
  induction m with
  | zero => exact fun f r h => ⟨_, .last (by omega)⟩
  | succ m ih =>
    intro f r h
    by_cases h1 : r.length ≤ 121
    · exact ⟨_, .last h1⟩
    · obtain ⟨out, ho⟩ := ih false (r.drop 121) (by rw [List.length_drop]; omega)
      exact ⟨_, .more (a := 0) (by omega) ho⟩
theorem Pieces.total (a : Nat) (f : Bool) (r : List Int) : ∃ out, Pieces sm a f r out := by
  by_cases h1 : r.length ≤ 121 - a
  · exact ⟨_, .last h1⟩
  · obtain ⟨out, ho⟩ := Pieces.total0 (sm := sm) _ false (r.drop (121 - a)) (Nat.le_refl _)
    exact ⟨_, .more (by omega) ho⟩
theorem Pieces.len {a : Nat} {f : Bool} {r out : List Int} (h : Pieces sm a f r out) : 7 + r.length ≤ out.length ∧ (a ≤ 121 → out.length ≤ 14 + 2 * r.length) := by
  have key : ∀ {a f r out}, Pieces sm a f r out → 7 + r.length ≤ out.length ∧ (a ≤ 121 → out.length ≤ 14 + 2 * r.length) ∧ (a = 0 → out.length ≤ 7 + 2 * r.length) := by
    intro a f r out h
    induction h with
    | last h => rw [pc_len]; omega
    | more h t ih => rw [List.length_append, pc_len, List.length_take]; rw [List.length_drop] at ih; omega
  exact ⟨(key h).1, (key h).2.1⟩
theorem lowB_bytes (n : Nat) (x : Int) : Bytes (lowB n x) := lowB_wf n x
theorem kdN_range (f e : Bool) : 1 ≤ kdN f e ∧ kdN f e ≤ 4 := by cases f <;> cases e <;> decide
theorem wf8 {x : Int} (h0 : 0 ≤ x) (h1 : x < 256) : (Lit.int .u8 x).wf = true := by
  have e0 : IntKind.u8.min = 0 := rfl
  have e1 : IntKind.u8.max = 255 := rfl
  simp only [Lit.wf, e0, e1, Bool.and_eq_true, decide_eq_true_eq]
  omega
theorem pc_bytes {k : Int} {x : List Int} (hk : 0 ≤ k ∧ k < 256) (hx : Bytes x) : Bytes (pc sm k x) := by
  intro z hz
  rw [pc, List.mem_append, List.mem_append, List.mem_cons] at hz
  rcases hz with h | h | h | h
  · exact lowB_bytes _ _ z h
  · exact lowB_bytes _ _ z h
  · subst h; exact wf8 hk.1 hk.2
  · exact hx z h
theorem Pieces.bytes {a : Nat} {f : Bool} {r out : List Int} (h : Pieces sm a f r out) (hr : Bytes r) : Bytes out := by
  induction h with
  | last h => exact pc_bytes (by have := kdN_range ‹Bool› true; omega) hr
  | more h t ih =>
    intro z hz
    rcases List.mem_append.1 hz with hz | hz
    · exact pc_bytes (by have := kdN_range ‹Bool› false; omega) (fun z hz => hr z (List.mem_of_mem_take hz)) z hz
    · exact ih (fun z hz => hr z (List.mem_of_mem_drop hz)) z hz
def padN (a : Nat) : Nat := if 121 < a % 128 then 128 - a % 128 else 0
theorem padN_le (a : Nat) : padN a ≤ 6 := by unfold padN; split <;> omega
theorem padN_mod (a : Nat) : (a + padN a) % 128 ≤ 121 := by unfold padN; split <;> omega
theorem padN_zero {a : Nat} (h : a % 128 ≤ 121) : padN a = 0 := by unfold padN; rw [if_neg (by omega)]
theorem padN_twice (a : Nat) : padN (a + padN a) = 0 := padN_zero (padN_mod a)
def IsPut (sm : List Int → Int) (size : Nat) (r out : List Int) : Prop := ∃ o, Pieces sm ((size + padN size) % 128) true r o ∧ out = List.replicate (padN size) 0 ++ o
theorem IsPut.total (sm : List Int → Int) (size : Nat) (r : List Int) : ∃ out, IsPut sm size r out := by
  obtain ⟨o, h⟩ := Pieces.total (sm := sm) ((size + padN size) % 128) true r
  exact ⟨_, o, h, rfl⟩
theorem IsPut.bytes {size : Nat} {r out : List Int} (h : IsPut sm size r out) (hr : Bytes r) : Bytes out := by
  obtain ⟨o, h1, rfl⟩ := h
  intro z hz
  rcases List.mem_append.1 hz with hz | hz
  · rw [(List.mem_replicate.1 hz).2]; decide
  · exact h1.bytes hr z hz
theorem IsPut.len {size : Nat} {r out : List Int} (h : IsPut sm size r out) : 7 + r.length ≤ out.length ∧ out.length ≤ 20 + 2 * r.length := by
  obtain ⟨o, h1, rfl⟩ := h
  have := h1.len
  have h2 := this.2 (padN_mod size)
  have h3 := padN_le size
  rw [List.length_append, List.length_replicate]
  omega
inductive Stp where
  | stop (c : Int)
  | go (u : Nat) (x : List Int) (m : Bool)
def cnt (s : List Int) : Nat := (le ((s.drop 4).take 2)).toNat
def kindAt (s : List Int) : Int := s.getD 6 0
def body (s : List Int) : List Int := (s.drop 7).take (cnt s)
def lookS (sm : List Int → Int) (a : Nat) (s : List Int) (wi : Bool) : Stp :=
  if s = [] then .stop (if wi = true then 1 else 0)
  else if s.length < 7 then .stop 1
  else if 121 - a % 128 < cnt s then .stop 2
  else if s.length < 7 + cnt s then .stop 1
  else if (1 ≤ kindAt s ∧ kindAt s ≤ 4) ∧ le (s.take 4) = sm (kindAt s :: body s) ∧ (wi = true ↔ 3 ≤ kindAt s) then .go (7 + cnt s) (body s) (decide (kindAt s = 2 ∨ kindAt s = 3))
  else .stop 2
def Stp.on (p : Nat) : Stp → Stp
  | .stop c => .stop c
  | .go u x m => .go (p + u) x m
def lookP (sm : List Int → Int) (a : Nat) (s : List Int) (wi : Bool) : Stp :=
  if ∀ z ∈ s.take (padN a), z = 0 then (lookS sm (a + (s.take (padN a)).length) (s.drop (padN a)) wi).on (s.take (padN a)).length else .stop 2
inductive Rd (sm : List Int → Int) : Nat → List Int → Bool → List Int → Nat → List (List Int) → Nat → Int → Prop
  | stop {a : Nat} {s : List Int} {wi : Bool} {now : List Int} {d : Nat} {c : Int} (h : lookP sm a s wi = .stop c) : Rd sm a s wi now d [] d c
  | more {a : Nat} {s : List Int} {wi : Bool} {now : List Int} {d u d' : Nat} {x : List Int} {rs : List (List Int)} {c : Int} (h : lookP sm a s wi = .go u x true) (t : Rd sm (a + u) (s.drop u) true (now ++ x) d rs d' c) : Rd sm a s wi now d rs d' c
  | last {a : Nat} {s : List Int} {wi : Bool} {now : List Int} {d u d' : Nat} {x : List Int} {rs : List (List Int)} {c : Int} (h : lookP sm a s wi = .go u x false) (t : Rd sm (a + u) (s.drop u) false [] (a + u) rs d' c) : Rd sm a s wi now d ((now ++ x) :: rs) d' c
theorem lookS_go {a : Nat} {s : List Int} {wi : Bool} {u : Nat} {x : List Int} {m : Bool} (h : lookS sm a s wi = .go u x m) : 7 ≤ u ∧ u ≤ s.length ∧ x = (s.drop 7).take (u - 7) ∧ u ≤ 128 := by
  unfold lookS at h
  split at h
  · cases h
  split at h
  · cases h
  split at h
  · cases h
  split at h
  · cases h
  split at h
  · injection h with h1 h2 h3
    refine ⟨by omega, by omega, ?_, by omega⟩
    rw [← h2, ← h1, body]
    congr 1; omega
  · cases h
theorem lookP_go {a : Nat} {s : List Int} {wi : Bool} {u : Nat} {x : List Int} {m : Bool} (h : lookP sm a s wi = .go u x m) : 7 ≤ u ∧ u ≤ s.length ∧ u ≤ 134 ∧ x.length + 7 ≤ u ∧ x.length ≤ 121 ∧ ∃ i, x = (s.drop i).take x.length := by
  unfold lookP at h
  split at h
  · generalize hq : lookS sm (a + (s.take (padN a)).length) (s.drop (padN a)) wi = q at h
    cases q with
    | stop c => cases h
    | go u' x' m' =>
      injection h with h1 h2 h3
      subst h1 h2 h3
      have := lookS_go hq
      have hp := padN_le a
      rw [List.length_drop] at this
      have hxl : x'.length ≤ 121 := by rw [this.2.2.1, List.length_take]; omega
      refine ⟨by omega, by rw [List.length_take]; omega, by rw [List.length_take]; omega, by rw [this.2.2.1, List.length_take]; omega, hxl, padN a + 7, ?_⟩
      rw [this.2.2.1, List.drop_drop, List.length_take]
      rw [List.take_eq_take_iff]
      simp only [List.length_drop]
      omega
  · cases h
theorem Rd.total (sm : List Int → Int) : ∀ (m a : Nat) (s : List Int) (wi : Bool) (now : List Int) (d : Nat), s.length ≤ m → ∃ rs d' c, Rd sm a s wi now d rs d' c := by
  intro m
  induction m with
  | zero =>
    intro a s wi now d h
    generalize hq : lookP sm a s wi = q
    cases q with
    | stop c => exact ⟨_, _, _, .stop hq⟩
    | go u x b => have := lookP_go hq; omega
  | succ m ih =>
    intro a s wi now d h
    generalize hq : lookP sm a s wi = q
    cases q with
    | stop c => exact ⟨_, _, _, .stop hq⟩
    | go u x b =>
      have hg := lookP_go hq
      cases b with
      | true =>
        obtain ⟨rs, d', c, ht⟩ := ih (a + u) (s.drop u) true (now ++ x) d (by rw [List.length_drop]; omega)
        exact ⟨_, _, _, .more hq ht⟩
      | false =>
        obtain ⟨rs, d', c, ht⟩ := ih (a + u) (s.drop u) false [] (a + u) (by rw [List.length_drop]; omega)
        exact ⟨_, _, _, .last hq ht⟩
theorem Rd.det {a : Nat} {s : List Int} {wi : Bool} {now : List Int} {d d1 : Nat} {rs : List (List Int)} {c : Int} (h : Rd sm a s wi now d rs d1 c) : ∀ {rs' : List (List Int)} {d2 : Nat} {c' : Int}, Rd sm a s wi now d rs' d2 c' → rs = rs' ∧ d1 = d2 ∧ c = c' := by
  induction h with
  | stop h =>
    intro rs' d2 c' h'
    cases h' with
    | stop g => rw [h] at g; injection g with g; exact ⟨rfl, rfl, g⟩
    | more g _ => rw [h] at g; cases g
    | last g _ => rw [h] at g; cases g
  | more h t ih =>
    intro rs' d2 c' h'
    cases h' with
    | stop g => rw [h] at g; cases g
    | more g t' => rw [h] at g; injection g with g1 g2; subst g1 g2; exact ih t'
    | last g _ => rw [h] at g; injection g with _ _ g3; cases g3
  | last h t ih =>
    intro rs' d2 c' h'
    cases h' with
    | stop g => rw [h] at g; cases g
    | more g _ => rw [h] at g; injection g with _ _ g3; cases g3
    | last g t' =>
      rw [h] at g; injection g with g1 g2; subst g1 g2
      obtain ⟨e1, e2, e3⟩ := ih t'
      exact ⟨by rw [e1], e2, e3⟩
theorem pc_cons (k : Int) (x : List Int) : ∃ a b c d e f : Int, lowB 4 (sm (k :: x)) = [a, b, c, d] ∧ lowB 2 x.length = [e, f] ∧ pc sm k x = a :: b :: c :: d :: e :: f :: k :: x := ⟨_, _, _, _, _, _, rfl, rfl, rfl⟩
theorem lookS_pc (hsm : ∀ l, 0 ≤ sm l ∧ sm l < 2 ^ 32) {a : Nat} {k : Int} {x rest : List Int} {wi : Bool} (hk : 1 ≤ k ∧ k ≤ 4) (hl : x.length ≤ 121 - a % 128) (hw : wi = true ↔ 3 ≤ k) :
    lookS sm a (pc sm k x ++ rest) wi = .go (7 + x.length) x (decide (k = 2 ∨ k = 3)) := by
  obtain ⟨b0, b1, b2, b3, b4, b5, e1, e2, e3⟩ := pc_cons (sm := sm) k x
  have hcnt : cnt (pc sm k x ++ rest) = x.length := by
    rw [e3]
    show (le [b4, b5]).toNat = _
    rw [← e2, le_lowB 2 (by omega) (by omega)]; omega
  have h4 : le ((pc sm k x ++ rest).take 4) = sm (k :: x) := by
    rw [e3]
    show le [b0, b1, b2, b3] = _
    rw [← e1, le_lowB 4 (hsm _).1 (hsm _).2]
  have hkd : kindAt (pc sm k x ++ rest) = k := by rw [e3]; rfl
  have hb : body (pc sm k x ++ rest) = x := by
    have e5 : (pc sm k x ++ rest).drop 7 = x ++ rest := by rw [e3]; rfl
    rw [body, hcnt, e5, List.take_left']; rfl
  have hlen : (pc sm k x ++ rest).length = 7 + x.length + rest.length := by rw [List.length_append, pc_len]
  unfold lookS
  rw [if_neg (by intro h; rw [h, List.length_nil] at hlen; omega), if_neg (by omega), hcnt, if_neg (by omega), if_neg (by omega), hkd, hb, h4, if_pos ⟨hk, rfl, hw⟩]
theorem lookP_flat {a : Nat} {s : List Int} {wi : Bool} (h : padN a = 0) : lookP sm a s wi = lookS sm a s wi := by
  unfold lookP
  rw [h]
  simp only [List.take_zero, List.not_mem_nil, false_implies, implies_true, if_true, List.length_nil, Nat.add_zero, List.drop_zero]
  cases lookS sm a s wi with
  | stop c => rfl
  | go u x m => simp [Stp.on]
theorem lookP_pad {a : Nat} {t : List Int} {wi : Bool} : lookP sm a (List.replicate (padN a) 0 ++ t) wi = (lookS sm (a + padN a) t wi).on (padN a) := by
  unfold lookP
  have e1 : (List.replicate (padN a) (0 : Int) ++ t).take (padN a) = List.replicate (padN a) 0 := by simp
  have e2 : (List.replicate (padN a) (0 : Int) ++ t).drop (padN a) = t := by simp
  rw [e1, e2, List.length_replicate, if_pos (fun z hz => (List.mem_replicate.1 hz).2)]
theorem Rd.pad {a : Nat} {t : List Int} {wi : Bool} {now : List Int} {d d' : Nat} {rs : List (List Int)} {c : Int} (h : Rd sm (a + padN a) t wi now d rs d' c) : Rd sm a (List.replicate (padN a) 0 ++ t) wi now d rs d' c := by
  have hd : ∀ u, (List.replicate (padN a) (0 : Int) ++ t).drop (padN a + u) = t.drop u := fun u => by
    rw [← List.drop_drop]; simp
  cases h with
  | stop h =>
    rw [lookP_flat (padN_twice a)] at h
    exact .stop (by rw [lookP_pad, h]; rfl)
  | more h ht =>
    rw [lookP_flat (padN_twice a)] at h
    refine .more (by rw [lookP_pad, h]; rfl) ?_
    rw [hd, ← Nat.add_assoc]; exact ht
  | last h ht =>
    rw [lookP_flat (padN_twice a)] at h
    refine .last (by rw [lookP_pad, h]; rfl) ?_
    rw [hd, ← Nat.add_assoc]; exact ht
theorem Rd.pieces (hsm : ∀ l, 0 ≤ sm l ∧ sm l < 2 ^ 32) {a : Nat} {f : Bool} {r out : List Int} (h : Pieces sm a f r out) : ∀ {at_ : Nat} {rest : List Int} {now : List Int} {d d' : Nat} {rs : List (List Int)} {c : Int}, at_ % 128 = a → a ≤ 121 →
    Rd sm (at_ + out.length) rest false [] (at_ + out.length) rs d' c → Rd sm at_ (out ++ rest) (!f) now d ((now ++ r) :: rs) d' c := by
  induction h with
  | @last a f r h =>
    intro at_ rest now d d' rs c ha h121 ht
    subst ha
    rw [pc_len] at ht
    have hl := lookS_pc hsm (a := at_) (rest := rest) (wi := !f) (kdN_range f true) h (by cases f <;> decide)
    have hm : decide (kdN f true = 2 ∨ kdN f true = 3) = false := by cases f <;> decide
    rw [hm] at hl
    refine .last (by rw [lookP_flat (padN_zero h121)]; exact hl) ?_
    rw [List.drop_append_of_le_length (by rw [pc_len]; omega), List.drop_of_length_le (by rw [pc_len]; omega), List.nil_append]
    exact ht
  | @more a f r out h t ih =>
    intro at_ rest now d d' rs c ha h121 ht
    subst ha
    have hx : (r.take (121 - at_ % 128)).length = 121 - at_ % 128 := by rw [List.length_take]; omega
    rw [List.length_append, pc_len, hx] at ht
    have hl := lookS_pc hsm (a := at_) (x := r.take (121 - at_ % 128)) (rest := out ++ rest) (wi := !f) (kdN_range f false) (by omega) (by cases f <;> decide)
    have hm : decide (kdN f false = 2 ∨ kdN f false = 3) = true := by cases f <;> decide
    rw [hm, hx] at hl
    have key := ih (at_ := at_ + (7 + (121 - at_ % 128))) (rest := rest) (now := now ++ r.take (121 - at_ % 128)) (d := d) (d' := d') (rs := rs) (c := c) (by omega) (by omega) (by rw [show at_ + (7 + (121 - at_ % 128)) + out.length = at_ + (7 + (121 - at_ % 128) + out.length) by omega]; exact ht)
    rw [List.append_assoc, List.take_append_drop] at key
    rw [List.append_assoc]
    refine .more (by rw [lookP_flat (padN_zero h121)]; exact hl) ?_
    have hd : (pc sm (kdN f false) (r.take (121 - at_ % 128)) ++ (out ++ rest)).drop (7 + (121 - at_ % 128)) = out ++ rest := by
      rw [List.drop_append_of_le_length (by rw [pc_len]; omega), List.drop_of_length_le (by rw [pc_len]; omega), List.nil_append]
    rw [hd]
    exact key
theorem Rd.isPut (hsm : ∀ l, 0 ≤ sm l ∧ sm l < 2 ^ 32) {a : Nat} {r out : List Int} (h : IsPut sm a r out) {rest : List Int} {d d' : Nat} {rs : List (List Int)} {c : Int} (ht : Rd sm (a + out.length) rest false [] (a + out.length) rs d' c) : Rd sm a (out ++ rest) false [] d (r :: rs) d' c := by
  obtain ⟨o, h1, rfl⟩ := h
  rw [List.length_append, List.length_replicate, ← Nat.add_assoc] at ht
  rw [List.append_assoc]
  have := Rd.pieces hsm h1 (at_ := a + padN a) (now := []) (d := d) rfl (padN_mod a) ht
  exact Rd.pad this
inductive IsLog (sm : List Int → Int) : Nat → List (List Int) → List Int → List Nat → Prop
  | nil {a : Nat} : IsLog sm a [] [] []
  | cons {a : Nat} {r o b : List Int} {rs : List (List Int)} {es : List Nat} (h : IsPut sm a r o) (t : IsLog sm (a + o.length) rs b es) : IsLog sm a (r :: rs) (o ++ b) ((a + o.length) :: es)
theorem IsLog.snoc {a : Nat} {r o b : List Int} {rs : List (List Int)} {es : List Nat} (h : IsLog sm a rs b es) : IsPut sm (a + b.length) r o → IsLog sm a (rs ++ [r]) (b ++ o) (es ++ [a + b.length + o.length]) := by
  induction h with
  | nil =>
    intro hp
    have := IsLog.cons (sm := sm) hp .nil
    simpa using this
  | cons h t ih =>
    intro hp
    rw [List.length_append, ← Nat.add_assoc] at hp
    have := IsLog.cons h (ih hp)
    rw [List.cons_append, List.cons_append, List.append_assoc, List.length_append]
    rw [← Nat.add_assoc] 
    exact this
theorem Rd.log (hsm : ∀ l, 0 ≤ sm l ∧ sm l < 2 ^ 32) {a : Nat} {b : List Int} {rs : List (List Int)} {es : List Nat} (h : IsLog sm a rs b es) : ∀ {rest : List Int} {d d' : Nat} {rs' : List (List Int)} {c : Int},
    Rd sm (a + b.length) rest false [] (if rs = [] then d else a + b.length) rs' d' c → Rd sm a (b ++ rest) false [] d (rs ++ rs') d' c := by
  induction h with
  | nil => intro rest d d' rs' c ht; simpa using ht
  | @cons a r o b rs es h t ih =>
    intro rest d d' rs' c ht
    rw [List.append_assoc, List.cons_append]
    refine Rd.isPut hsm h (ih ?_)
    rw [if_neg (by simp), List.length_append, ← Nat.add_assoc] at ht
    by_cases hn : rs = []
    · subst hn
      cases t
      rw [if_pos rfl]
      simpa using ht
    · rw [if_neg hn]; exact ht
theorem Rd.whole (hsm : ∀ l, 0 ≤ sm l ∧ sm l < 2 ^ 32) {b : List Int} {rs : List (List Int)} {es : List Nat} (h : IsLog sm 0 rs b es) : Rd sm 0 b false [] 0 rs b.length 0 := by
  have h1 : Rd sm (0 + b.length) [] false [] (if rs = [] then 0 else 0 + b.length) [] b.length 0 := by
    have hl : lookP sm (0 + b.length) [] false = .stop 0 := by
      unfold lookP lookS
      simp [Stp.on]
    have := Rd.stop (sm := sm) (now := []) (d := b.length) hl
    by_cases hn : rs = []
    · subst hn; cases h; exact this
    · rw [if_neg hn, Nat.zero_add] at *; exact this
  have := Rd.log hsm h (rest := []) (d := 0) h1
  simpa using this
def upTo (es : List Nat) (t : Nat) : Nat := (es.takeWhile fun e => decide (e ≤ t)).length
end
end Go.Proofs.YtdcdgmiojlldaaaDoor.Fr
/- Frames: what the program's functions write. -/
namespace Go.Proofs.YtdcdgmiojlldaaaDoor.Fr
open Go Big Go.RowKit Go.IntWalk Crc
set_option linter.unusedVariables false
set_option linter.unusedSimpArgs false
def sm (l : List Int) : Int := mask (sum l)
theorem hsm : ∀ l, 0 ≤ sm l ∧ sm l < 2 ^ 32 := fun l => mask_range _
theorem slB : ∃ i, SlT Tryd.prog 28 5 .u8 i := slT (by kernel_rfl)
theorem low4 (x : Int) (h0 : 0 ≤ x) : [IntKind.u8.wrap x, IntKind.u8.wrap (Int.fdiv x (2 ^ 8)), IntKind.u8.wrap (Int.fdiv x (2 ^ 16)), IntKind.u8.wrap (Int.fdiv x (2 ^ 24))] = lowB 4 x := by
  simp only [lowB, u8w, fdivI]
  rw [Int.ediv_ediv_of_nonneg (by decide), Int.ediv_ediv_of_nonneg (by decide)]
  rfl
theorem low2 (x : Int) : [IntKind.u8.wrap x, IntKind.u8.wrap (Int.fdiv x (2 ^ 8))] = lowB 2 x := by
  simp only [lowB, u8w, fdivI]
  rfl
section
variable {α : Type} {Q : α → Prop} {n : Nat} {w w0 : World} {A B C : Option Addr} {l c d base lo co : Nat} {k : Int} {x r out o : List Int}
theorem kind_spec (f e : Bool) : frame_kind n [.bool f, .bool e] w = some ([.int .u8 (kdN f e)], w) := by
  rw [frame_kind_eq]
  cases f <;> cases e <;> rfl
theorem summed_spec (hn : 2 ^ 50 < n) (ht : Sl .u32 w A 256 tab) (hb : Bv .u8 w B l d x) (hl : l ≤ 2 ^ 38) : Rt (frame_summed n [.slice A 256 c, .int .u8 k, .slice B l d] w) (RI .u32 (sm (k :: x)) w) := by
  obtain ⟨i, hT⟩ := slB
  rw [frame_summed_eq]
  refine Rt.fin (Rt.alo [_] 1 rfl rfl (by decide) fun w1 o1 k1 => ?_)
  refine Rt.app hT o1 (hb.kp k1).sl hb.nil (by simp; omega) k1.size fun C e w2 o2 hk2 _ _ => ?_
  (repeat' (first|(with_reducible (first|apply Rt.fin|apply Rt.tL|apply Rt.tI|apply Rt.tB|apply Rt.tS|apply Rt.tP|apply Rt.tD|apply Rt.tM|apply Rt.tC|apply Rt.tN|apply Rt.tA|apply Rt.tG|apply Rt.tF|apply Rt.os|apply Rt.clS|apply Rt.jmN|apply Rt.jbN|apply Rt.jbE|apply Rt.ckR|exact Rt.some' rfl))|((with_reducible (first|apply Rt.ld0|apply Rt.ld1|apply Rt.ld2|apply Rt.ld3|apply Rt.ld4|apply Rt.ld5)); first|assumption|exact Lc.kp (by assumption) (by assumption))|((with_reducible apply Rt.ol); first|assumption|exact cell_kp (by assumption) (by assumption))|fail))
  have k2 := hk2 w k1 (Nat.le_refl _)
  refine Rt.cI (Sum_rt hn (ht.kp k2) o2.sl.2 (by simp; omega)) fun w3 k3 => ?_
  rw [Mask_spec]
  (repeat' (first|(with_reducible (first|apply Rt.fin|apply Rt.tL|apply Rt.tI|apply Rt.tB|apply Rt.tS|apply Rt.tP|apply Rt.tD|apply Rt.tM|apply Rt.tC|apply Rt.tN|apply Rt.tA|apply Rt.tG|apply Rt.tF|apply Rt.os|apply Rt.clS|apply Rt.jmN|apply Rt.jbN|apply Rt.jbE|apply Rt.ckR|exact Rt.some' rfl))|((with_reducible (first|apply Rt.ld0|apply Rt.ld1|apply Rt.ld2|apply Rt.ld3|apply Rt.ld4|apply Rt.ld5)); first|assumption|exact Lc.kp (by assumption) (by assumption))|((with_reducible apply Rt.ol); first|assumption|exact cell_kp (by assumption) (by assumption))|fail))
  exact Rt.endI rfl (k2.tr k3)
theorem piece_spec (hn : 2 ^ 50 < n) (ht : Sl .u32 w A 256 tab) (hk : Kp w0 w) (hb : Bv .u8 w0 B l d x) (hl : l ≤ 2 ^ 38) (h0 : w0.heap.size ≤ base) (hbs : base ≤ w.heap.size) (ho : Own .u8 5 w base (.slice C o.length co) o) (hol : o.length ≤ 2 ^ 38) :
    Rt (frame_piece n [.slice A 256 c, .slice C o.length co, .int .u8 k, .slice B l d] w) fun r => ∃ D e w', r = ([.slice D (o ++ pc sm k x).length e], w') ∧ Own .u8 5 w' base (.slice D (o ++ pc sm k x).length e) (o ++ pc sm k x) ∧ (∀ w1, Kp w1 w → w1.heap.size ≤ base → Kp w1 w') ∧ w.heap.size ≤ w'.heap.size := by
  obtain ⟨i, hT⟩ := slB
  have hxl := hb.len
  rw [frame_piece_eq]
  refine Rt.fin (Rt.cI (summed_spec hn ht (hb.kp hk) hl) fun w1 k1 => ?_)
  refine Rt.alo [_, _, _, _, _, _, _] 7 rfl rfl (by decide) fun w2 o2 k2 => ?_
  have k12 := k1.tr k2
  refine Rt.app hT (ho.kp k12) o2.sl.2 (fun h => by cases h) (by omega) (Nat.le_trans hbs k12.size) fun D e w3 o3 hk3 _ s3 => ?_
  (repeat' (first|(with_reducible (first|apply Rt.fin|apply Rt.tL|apply Rt.tI|apply Rt.tB|apply Rt.tS|apply Rt.tP|apply Rt.tD|apply Rt.tM|apply Rt.tC|apply Rt.tN|apply Rt.tA|apply Rt.tG|apply Rt.tF|apply Rt.os|apply Rt.clS|apply Rt.jmN|apply Rt.jbN|apply Rt.jbE|apply Rt.ckR|exact Rt.some' rfl))|((with_reducible (first|apply Rt.ld0|apply Rt.ld1|apply Rt.ld2|apply Rt.ld3|apply Rt.ld4|apply Rt.ld5)); first|assumption|exact Lc.kp (by assumption) (by assumption))|((with_reducible apply Rt.ol); first|assumption|exact cell_kp (by assumption) (by assumption))|fail))
  have hx3 : Kp w0 w3 := hk3 w0 (hk.tr k12) h0
  refine Rt.app hT o3 (hb.kp hx3).sl hb.nil (by rw [List.length_append]; simp; omega) (by have := k12.size; omega) fun E e' w4 o4 hk4 _ s4 => ?_
  (repeat' (first|(with_reducible (first|apply Rt.fin|apply Rt.tL|apply Rt.tI|apply Rt.tB|apply Rt.tS|apply Rt.tP|apply Rt.tD|apply Rt.tM|apply Rt.tC|apply Rt.tN|apply Rt.tA|apply Rt.tG|apply Rt.tF|apply Rt.os|apply Rt.clS|apply Rt.jmN|apply Rt.jbN|apply Rt.jbE|apply Rt.ckR|exact Rt.some' rfl))|((with_reducible (first|apply Rt.ld0|apply Rt.ld1|apply Rt.ld2|apply Rt.ld3|apply Rt.ld4|apply Rt.ld5)); first|assumption|exact Lc.kp (by assumption) (by assumption))|((with_reducible apply Rt.ol); first|assumption|exact cell_kp (by assumption) (by assumption))|fail))
  have he : [IntKind.u8.wrap (sm (k :: x)), IntKind.u8.wrap (Int.fdiv (sm (k :: x)) (2 ^ 8)), IntKind.u8.wrap (Int.fdiv (sm (k :: x)) (2 ^ 16)), IntKind.u8.wrap (Int.fdiv (sm (k :: x)) (2 ^ 24)), IntKind.u8.wrap (l : Int), IntKind.u8.wrap (Int.fdiv (l : Int) (2 ^ 8)), k] ++ x = pc sm k x := by
    unfold pc
    rw [← low4 _ (hsm _).1, hxl, ← low2]
    rfl
  rw [List.append_assoc, he] at o4
  have hl4 := o4.sl.1
  rw [hl4] at o4 ⊢
  exact Rt.some' ⟨rfl, E, e', w4, rfl, o4, fun w1 h h' => hk4 w1 (hk3 w1 (h.tr k12) h') h', by have := k12.size; omega⟩
theorem Put_l0 (hn : 2 ^ 50 < n) (ht : Sl .u32 w0 A 256 tab) {a : Nat} {f : Bool} (h : Pieces sm a f r out) : a ≤ 121 → ∀ (m : Nat) (w : World) (B : Option Addr) (l d : Nat) (C : Option Addr) (co : Nat) (o : List Int), out.length < m → Kp w0 w → Bv .u8 w0 B l d r → base ≤ w.heap.size → w0.heap.size ≤ base →
    Own .u8 5 w base (.slice C o.length co) o → o.length + out.length ≤ 2 ^ 38 →
    Rt (frame_Put.l0 n m B l d (a : Int) A 256 c C o.length co f w) fun r => r.ex = .ret ∧ RO .u8 5 w0 (o ++ out) (r.vals, r.w) := by
  induction h with
  | @last a f r h =>
    intro h121 m w B l d C co o hm hk hb hbs h0 ho hol
    obtain ⟨m, rfl⟩ : ∃ m', m = m' + 1 := ⟨m - 1, by omega⟩
    have hrl := hb.len
    rw [pc_len] at hol
    rw [frame_Put.l0_succ, i64_in (128 - (a : Int)) (by omega), i64_in (128 - (a : Int) - 7) (by omega)]
    have e : (if 128 - (a : Int) - 7 < (l : Int) then 128 - (a : Int) - 7 else (l : Int)) = (l : Int) := by rw [if_neg (by omega)]
    rw [e, beq_self_eq_true, kind_spec]
    (repeat' (first|(with_reducible (first|apply Rt.fin|apply Rt.tL|apply Rt.tI|apply Rt.tB|apply Rt.tS|apply Rt.tP|apply Rt.tD|apply Rt.tM|apply Rt.tC|apply Rt.tN|apply Rt.tA|apply Rt.tG|apply Rt.tF|apply Rt.os|apply Rt.clS|apply Rt.jmN|apply Rt.jbN|apply Rt.jbE|apply Rt.ckR|exact Rt.some' rfl))|((with_reducible (first|apply Rt.ld0|apply Rt.ld1|apply Rt.ld2|apply Rt.ld3|apply Rt.ld4|apply Rt.ld5)); first|assumption|exact Lc.kp (by assumption) (by assumption))|((with_reducible apply Rt.ol); first|assumption|exact cell_kp (by assumption) (by assumption))|fail))
    refine Rt.cut hb (by omega) (by omega) (by omega) fun D bD => ?_
    rw [Int.toNat_natCast, List.take_of_length_le (by omega), show Int.toNat 0 = 0 from rfl, List.drop_zero, Nat.sub_zero, Nat.sub_zero] at bD
    refine Rt.call (piece_spec (w := w.drew) hn (ht.kp hk.dr) hk.dr bD (by omega) h0 hbs ho (by omega)) ?_
    rintro vs w1 ⟨E, e', w1', hr, o1, hk1, s1⟩
    cases hr
    (repeat' (first|(with_reducible (first|apply Rt.fin|apply Rt.tL|apply Rt.tI|apply Rt.tB|apply Rt.tS|apply Rt.tP|apply Rt.tD|apply Rt.tM|apply Rt.tC|apply Rt.tN|apply Rt.tA|apply Rt.tG|apply Rt.tF|apply Rt.os|apply Rt.clS|apply Rt.jmN|apply Rt.jbN|apply Rt.jbE|apply Rt.ckR|exact Rt.some' rfl))|((with_reducible (first|apply Rt.ld0|apply Rt.ld1|apply Rt.ld2|apply Rt.ld3|apply Rt.ld4|apply Rt.ld5)); first|assumption|exact Lc.kp (by assumption) (by assumption))|((with_reducible apply Rt.ol); first|assumption|exact cell_kp (by assumption) (by assumption))|fail))
    exact Rt.cT rfl (Rt.some' ⟨rfl, E, e', w1, rfl, o1.mono h0, hk1 w0 hk.dr h0⟩)
  | @more a f r out h t ih =>
    intro h121 m w B l d C co o hm hk hb hbs h0 ho hol
    obtain ⟨m, rfl⟩ : ∃ m', m = m' + 1 := ⟨m - 1, by omega⟩
    have hrl := hb.len
    have hx : (r.take (121 - a)).length = 121 - a := by rw [List.length_take]; omega
    rw [List.length_append, pc_len, hx] at hol hm
    have hle := t.len.1
    rw [List.length_drop] at hle
    rw [frame_Put.l0_succ, i64_in (128 - (a : Int)) (by omega), i64_in (128 - (a : Int) - 7) (by omega)]
    have e : (if 128 - (a : Int) - 7 < (l : Int) then 128 - (a : Int) - 7 else (l : Int)) = ((121 - a : Nat) : Int) := by rw [if_pos (by omega)]; omega
    rw [e, show (((121 - a : Nat) : Int) == (l : Int)) = false by rw [beq_eq_false_iff_ne]; omega, kind_spec]
    (repeat' (first|(with_reducible (first|apply Rt.fin|apply Rt.tL|apply Rt.tI|apply Rt.tB|apply Rt.tS|apply Rt.tP|apply Rt.tD|apply Rt.tM|apply Rt.tC|apply Rt.tN|apply Rt.tA|apply Rt.tG|apply Rt.tF|apply Rt.os|apply Rt.clS|apply Rt.jmN|apply Rt.jbN|apply Rt.jbE|apply Rt.ckR|exact Rt.some' rfl))|((with_reducible (first|apply Rt.ld0|apply Rt.ld1|apply Rt.ld2|apply Rt.ld3|apply Rt.ld4|apply Rt.ld5)); first|assumption|exact Lc.kp (by assumption) (by assumption))|((with_reducible apply Rt.ol); first|assumption|exact cell_kp (by assumption) (by assumption))|fail))
    refine Rt.cut hb (by omega) (by omega) (by omega) fun D bD => ?_
    rw [Int.toNat_natCast, show Int.toNat 0 = 0 from rfl, List.drop_zero, Nat.sub_zero, Nat.sub_zero] at bD
    refine Rt.call (piece_spec (w := w.drew) hn (ht.kp hk.dr) hk.dr bD (by omega) h0 hbs ho (by omega)) ?_
    rintro vs w1 ⟨E, e', w1', hr, o1, hk1, s1⟩
    cases hr
    have s1 : w.heap.size ≤ w1.heap.size := s1
    (repeat' (first|(with_reducible (first|apply Rt.fin|apply Rt.tL|apply Rt.tI|apply Rt.tB|apply Rt.tS|apply Rt.tP|apply Rt.tD|apply Rt.tM|apply Rt.tC|apply Rt.tN|apply Rt.tA|apply Rt.tG|apply Rt.tF|apply Rt.os|apply Rt.clS|apply Rt.jmN|apply Rt.jbN|apply Rt.jbE|apply Rt.ckR|exact Rt.some' rfl))|((with_reducible (first|apply Rt.ld0|apply Rt.ld1|apply Rt.ld2|apply Rt.ld3|apply Rt.ld4|apply Rt.ld5)); first|assumption|exact Lc.kp (by assumption) (by assumption))|((with_reducible apply Rt.ol); first|assumption|exact cell_kp (by assumption) (by assumption))|fail))
    refine Rt.cF rfl (Rt.cut hb (by omega) (by omega) (by omega) fun F bF => ?_)
    rw [Int.toNat_natCast, Int.toNat_natCast, List.take_of_length_le (by omega)] at bF
    have := ih (by omega) m w1 F (l - (121 - a)) (d - (121 - a)) E e' (o ++ pc sm (kdN f false) (r.take (121 - a))) (by omega) (hk1 w0 hk.dr h0) bF (by omega) h0 o1 (by rw [List.length_append, pc_len, hx]; omega)
    rw [List.append_assoc] at this
    exact this
theorem Put_spec {size : Int} (hn : 2 ^ 50 < n) (hb : Bv .u8 w B l d r) (hl : l ≤ 2 ^ 36) (hsz : size < 2 ^ 63) (hp : IsPut sm size.toNat r out) : Rt (frame_Put n [.int .i64 size, .slice B l d] w) (RO .u8 5 w out) := by
  obtain ⟨i, hT⟩ := slB
  obtain ⟨o, h1, rfl⟩ := hp
  have hlen := h1.len
  have hlen2 := hlen.2 (padN_mod _)
  have hrl := hb.len
  rw [frame_Put_eq]
  refine Rt.fin (Rt.call (Table_rt hn) fun vs w1 h => ?_)
  obtain ⟨A, c, w1', e, ot, k1⟩ := h
  injection e with e e'
  subst e e'
  (repeat' (first|(with_reducible (first|apply Rt.fin|apply Rt.tL|apply Rt.tI|apply Rt.tB|apply Rt.tS|apply Rt.tP|apply Rt.tD|apply Rt.tM|apply Rt.tC|apply Rt.tN|apply Rt.tA|apply Rt.tG|apply Rt.tF|apply Rt.os|apply Rt.clS|apply Rt.jmN|apply Rt.jbN|apply Rt.jbE|apply Rt.ckR|exact Rt.some' rfl))|((with_reducible (first|apply Rt.ld0|apply Rt.ld1|apply Rt.ld2|apply Rt.ld3|apply Rt.ld4|apply Rt.ld5)); first|assumption|exact Lc.kp (by assumption) (by assumption))|((with_reducible apply Rt.ol); first|assumption|exact cell_kp (by assumption) (by assumption))|fail))
  have ht := ot.sl.2
  have e0 : Int.tmod (if 0 < size then size else 0) 128 = ((size.toNat % 128 : Nat) : Int) := by
    rw [Int.tmod_eq_emod_of_nonneg (by split <;> omega)]
    split <;> omega
  have e1 : IntKind.i64.wrap (128 - ((size.toNat % 128 : Nat) : Int)) = ((128 - size.toNat % 128 : Nat) : Int) := by rw [i64_in _ (by omega)]; omega
  rw [e0, e1]
  refine Rt.jm (Rt.cD (fun h => ?_) fun h => ?_)
  · have hp : padN size.toNat = 128 - size.toNat % 128 := by unfold padN; rw [if_pos (by omega)]
    have ha : (size.toNat + padN size.toNat) % 128 = 0 := by omega
    refine Rt.mk hT (by omega) (by omega) fun w2 o2 k2 => ?_
    rw [Int.toNat_natCast] at o2 ⊢
    (repeat' (first|(with_reducible (first|apply Rt.fin|apply Rt.tL|apply Rt.tI|apply Rt.tB|apply Rt.tS|apply Rt.tP|apply Rt.tD|apply Rt.tM|apply Rt.tC|apply Rt.tN|apply Rt.tA|apply Rt.tG|apply Rt.tF|apply Rt.os|apply Rt.clS|apply Rt.jmN|apply Rt.jbN|apply Rt.jbE|apply Rt.ckR|exact Rt.some' rfl))|((with_reducible (first|apply Rt.ld0|apply Rt.ld1|apply Rt.ld2|apply Rt.ld3|apply Rt.ld4|apply Rt.ld5)); first|assumption|exact Lc.kp (by assumption) (by assumption))|((with_reducible apply Rt.ol); first|assumption|exact cell_kp (by assumption) (by assumption))|fail))
    refine Rt.some' ⟨rfl, ?_⟩
    (repeat' (first|(with_reducible (first|apply Rt.fin|apply Rt.tL|apply Rt.tI|apply Rt.tB|apply Rt.tS|apply Rt.tP|apply Rt.tD|apply Rt.tM|apply Rt.tC|apply Rt.tN|apply Rt.tA|apply Rt.tG|apply Rt.tF|apply Rt.os|apply Rt.clS|apply Rt.jmN|apply Rt.jbN|apply Rt.jbE|apply Rt.ckR|exact Rt.some' rfl))|((with_reducible (first|apply Rt.ld0|apply Rt.ld1|apply Rt.ld2|apply Rt.ld3|apply Rt.ld4|apply Rt.ld5)); first|assumption|exact Lc.kp (by assumption) (by assumption))|((with_reducible apply Rt.ol); first|assumption|exact cell_kp (by assumption) (by assumption))|fail))
    rw [ha] at h1
    have hl1 : (List.replicate (128 - size.toNat % 128) (0 : Int)).length = 128 - size.toNat % 128 := List.length_replicate
    have o2' : Own .u8 5 w2 w1.heap.size (.slice (some ⟨w1.heap.size, 0, none⟩) (List.replicate (128 - size.toNat % 128) (0 : Int)).length (128 - size.toNat % 128)) (List.replicate (128 - size.toNat % 128) 0) := by rw [hl1]; exact o2
    have := Put_l0 (n := n) (c := c) hn ht h1 (by omega) n w2 B l d (some ⟨w1.heap.size, 0, none⟩) (128 - size.toNat % 128) _ (by omega) k2 (hb.kp k1) k2.size (Nat.le_refl _) o2' (by rw [hl1]; omega)
    rw [hl1] at this
    rw [hp]
    refine Rt.mono this ?_
    rintro ⟨ex, vs, w3⟩ ⟨g1, D, f, w3', g2, g3, g4⟩
    exact ⟨g1, D, f, w3', g2, g3.mono k1.size, k1.tr g4⟩
  · have hp : padN size.toNat = 0 := padN_zero (by omega)
    have ha : (size.toNat + padN size.toNat) % 128 = size.toNat % 128 := by omega
    refine Rt.some' ⟨rfl, ?_⟩
    (repeat' (first|(with_reducible (first|apply Rt.fin|apply Rt.tL|apply Rt.tI|apply Rt.tB|apply Rt.tS|apply Rt.tP|apply Rt.tD|apply Rt.tM|apply Rt.tC|apply Rt.tN|apply Rt.tA|apply Rt.tG|apply Rt.tF|apply Rt.os|apply Rt.clS|apply Rt.jmN|apply Rt.jbN|apply Rt.jbE|apply Rt.ckR|exact Rt.some' rfl))|((with_reducible (first|apply Rt.ld0|apply Rt.ld1|apply Rt.ld2|apply Rt.ld3|apply Rt.ld4|apply Rt.ld5)); first|assumption|exact Lc.kp (by assumption) (by assumption))|((with_reducible apply Rt.ol); first|assumption|exact cell_kp (by assumption) (by assumption))|fail))
    rw [ha] at h1
    have := Put_l0 (n := n) (c := c) hn ht h1 (by omega) n w1 B l d none 0 [] (by omega) (Kp.rfl' w1) (hb.kp k1) (Nat.le_refl _) (Nat.le_refl _) (Own.nil w1 _) (by simp; omega)
    rw [hp]
    refine Rt.mono this ?_
    rintro ⟨ex, vs, w3⟩ ⟨g1, D, f, w3', g2, g3, g4⟩
    exact ⟨g1, D, f, w3', g2, g3.mono k1.size, k1.tr g4⟩
end
end Go.Proofs.YtdcdgmiojlldaaaDoor.Fr
/- Frames: what the reference's functions write. -/
namespace Go.Proofs.YtdcdgmiojlldaaaDoor.Fr
open Go Big Go.RowKit Go.IntWalk Crc
set_option linter.unusedVariables false
set_option linter.unusedSimpArgs false
theorem nilB (w : World) : Bv .u8 w none 0 0 [] := ⟨Sl.nil .., fun _ => ⟨rfl, rfl⟩, Nat.le_refl _, Nat.zero_le _, by simp⟩
section
variable {α : Type} {Q : α → Prop} {n : Nat} {w w0 : World} {A B C : Option Addr} {l c d base lo co : Nat} {k : Int} {x r out o : List Int}
theorem wf255 {xs : List Int} (h : Bytes xs) : ∀ x ∈ xs, 0 ≤ x ∧ x ≤ 255 := fun x hx => by have := u8wf (h x hx); omega
theorem Masked_spec (hn : 2 ^ 50 < n) (hb : Bv .u8 w B l d x) (hl : l ≤ 2 ^ 38) : Rt (butteryref1_Masked n [.slice B l d] w) (RO .u8 5 w (lowB 4 (mask (sum x)))) := by
  rw [butteryref1_Masked_eq, Crc_spec hn hb.sl (wf255 hb.rng) (by omega)]
  refine Rt.fin ?_
  (repeat' (first|(with_reducible (first|apply Rt.fin|apply Rt.tL|apply Rt.tI|apply Rt.tB|apply Rt.tS|apply Rt.tP|apply Rt.tD|apply Rt.tM|apply Rt.tC|apply Rt.tN|apply Rt.tA|apply Rt.tG|apply Rt.tF|apply Rt.os|apply Rt.clS|apply Rt.jmN|apply Rt.jbN|apply Rt.jbE|apply Rt.ckR|exact Rt.some' rfl))|((with_reducible (first|apply Rt.ld0|apply Rt.ld1|apply Rt.ld2|apply Rt.ld3|apply Rt.ld4|apply Rt.ld5)); first|assumption|exact Lc.kp (by assumption) (by assumption))|((with_reducible apply Rt.ol); first|assumption|exact cell_kp (by assumption) (by assumption))|fail))
  rw [RMask_spec]
  (repeat' (first|(with_reducible (first|apply Rt.fin|apply Rt.tL|apply Rt.tI|apply Rt.tB|apply Rt.tS|apply Rt.tP|apply Rt.tD|apply Rt.tM|apply Rt.tC|apply Rt.tN|apply Rt.tA|apply Rt.tG|apply Rt.tF|apply Rt.os|apply Rt.clS|apply Rt.jmN|apply Rt.jbN|apply Rt.jbE|apply Rt.ckR|exact Rt.some' rfl))|((with_reducible (first|apply Rt.ld0|apply Rt.ld1|apply Rt.ld2|apply Rt.ld3|apply Rt.ld4|apply Rt.ld5)); first|assumption|exact Lc.kp (by assumption) (by assumption))|((with_reducible apply Rt.ol); first|assumption|exact cell_kp (by assumption) (by assumption))|fail))
  have hm := mask_range (sum x)
  rw [u64_in _ (by omega)]
  have := Low.Low_spec (n := n) (v := mask (sum x)) (mm := 4) (nilB w) (by omega) (by omega) (by omega) (by omega)
  refine Rt.cO this fun D e w1 o1 k1 => ?_
  exact Rt.endO o1 (Nat.le_refl _) k1
theorem rpiece_spec (hn : 2 ^ 50 < n) (hk : 0 ≤ k ∧ k < 256) (hb : Bv .u8 w B l d x) (hl : l ≤ 2 ^ 36) : Rt (butteryref6_piece n [.int .u8 k, .slice B l d] w) (RO .u8 5 w (pc sm k x)) := by
  obtain ⟨i, hT⟩ := slB
  have hxl := hb.len
  have hkb : (Lit.int .u8 k).wf = true := wf8 hk.1 hk.2
  have hkx : Bytes ([k] ++ x) := fun z hz => by
    rcases List.mem_append.1 hz with h | h
    · rw [List.mem_singleton.1 h]; exact hkb
    · exact hb.rng z h
  rw [butteryref6_piece_eq]
  refine Rt.fin (Rt.alo [_] 1 rfl rfl (by decide) fun w1 o1 k1 => ?_)
  refine Rt.app hT o1 (hb.kp k1).sl hb.nil (by simp; omega) k1.size fun D e w2 o2 hk2 _ s2 => ?_
  (repeat' (first|(with_reducible (first|apply Rt.fin|apply Rt.tL|apply Rt.tI|apply Rt.tB|apply Rt.tS|apply Rt.tP|apply Rt.tD|apply Rt.tM|apply Rt.tC|apply Rt.tN|apply Rt.tA|apply Rt.tG|apply Rt.tF|apply Rt.os|apply Rt.clS|apply Rt.jmN|apply Rt.jbN|apply Rt.jbE|apply Rt.ckR|exact Rt.some' rfl))|((with_reducible (first|apply Rt.ld0|apply Rt.ld1|apply Rt.ld2|apply Rt.ld3|apply Rt.ld4|apply Rt.ld5)); first|assumption|exact Lc.kp (by assumption) (by assumption))|((with_reducible apply Rt.ol); first|assumption|exact cell_kp (by assumption) (by assumption))|fail))
  have k2 := hk2 w k1 (Nat.le_refl _)
  have hl2 := o2.sl.1
  rw [hl2] at o2 ⊢
  refine Rt.cO (Masked_spec hn (o2.bv hkx) (by simp; omega)) fun E e' w3 o3 k3 => ?_
  have k13 := k2.tr k3
  rw [u64_in (l : Int) (by omega)]
  have := Low.Low_spec (n := n) (v := (l : Int)) (mm := 2) (o3.bv (lowB_bytes _ _)) (by omega) (by omega) (by simp [lowB_len]) (by omega)
  refine Rt.cO this fun F f w4 o4 k4 => ?_
  have k14 := k13.tr k4
  refine Rt.alo [_] 1 rfl rfl (by decide) fun w5 o5 k5 => ?_
  have k15 := k14.tr k5
  refine Rt.app hT (base := w3.heap.size) (o4.kp k5) o5.sl.2 (fun h => by cases h) (by simp [lowB_len]) (by have := k4.size; have := k5.size; omega) fun G g w6 o6 hk6 _ s6 => ?_
  (repeat' (first|(with_reducible (first|apply Rt.fin|apply Rt.tL|apply Rt.tI|apply Rt.tB|apply Rt.tS|apply Rt.tP|apply Rt.tD|apply Rt.tM|apply Rt.tC|apply Rt.tN|apply Rt.tA|apply Rt.tG|apply Rt.tF|apply Rt.os|apply Rt.clS|apply Rt.jmN|apply Rt.jbN|apply Rt.jbE|apply Rt.ckR|exact Rt.some' rfl))|((with_reducible (first|apply Rt.ld0|apply Rt.ld1|apply Rt.ld2|apply Rt.ld3|apply Rt.ld4|apply Rt.ld5)); first|assumption|exact Lc.kp (by assumption) (by assumption))|((with_reducible apply Rt.ol); first|assumption|exact cell_kp (by assumption) (by assumption))|fail))
  have k16 := hk6 w k15 k13.size
  refine Rt.app hT o6 (hb.kp k16).sl hb.nil (by simp [lowB_len]; omega) (by have := k4.size; have := k5.size; omega) fun H h w7 o7 hk7 _ s7 => ?_
  (repeat' (first|(with_reducible (first|apply Rt.fin|apply Rt.tL|apply Rt.tI|apply Rt.tB|apply Rt.tS|apply Rt.tP|apply Rt.tD|apply Rt.tM|apply Rt.tC|apply Rt.tN|apply Rt.tA|apply Rt.tG|apply Rt.tF|apply Rt.os|apply Rt.clS|apply Rt.jmN|apply Rt.jbN|apply Rt.jbE|apply Rt.ckR|exact Rt.some' rfl))|((with_reducible (first|apply Rt.ld0|apply Rt.ld1|apply Rt.ld2|apply Rt.ld3|apply Rt.ld4|apply Rt.ld5)); first|assumption|exact Lc.kp (by assumption) (by assumption))|((with_reducible apply Rt.ol); first|assumption|exact cell_kp (by assumption) (by assumption))|fail))
  have he : lowB 4 (mask (sum ([k] ++ x))) ++ lowB 2 (l : Int) ++ [k] ++ x = pc sm k x := by
    rw [pc, sm, hxl]; simp
  rw [he] at o7
  exact Rt.endO o7 k13.size (hk7 w k16 k13.size)
theorem RPut_l0 (hn : 2 ^ 50 < n) {a : Nat} {f : Bool} (h : Pieces sm a f r out) : a ≤ 121 → ∀ (m : Nat) (w : World) (B : Option Addr) (l d : Nat) (C : Option Addr) (co : Nat) (o : List Int), out.length < m → Kp w0 w → Bv .u8 w0 B l d r → base ≤ w.heap.size → w0.heap.size ≤ base →
    Own .u8 5 w base (.slice C o.length co) o → o.length + out.length ≤ 2 ^ 36 →
    Rt (butteryref6_Put.l0 n m B l d (a : Int) C o.length co f w) fun r => r.ex = .ret ∧ RO .u8 5 w0 (o ++ out) (r.vals, r.w) := by
  obtain ⟨i, hT⟩ := slB
  induction h with
  | @last a f r h =>
    intro h121 m w B l d C co o hm hk hb hbs h0 ho hol
    obtain ⟨m, rfl⟩ : ∃ m', m = m' + 1 := ⟨m - 1, by omega⟩
    have hrl := hb.len
    rw [pc_len] at hol
    rw [butteryref6_Put.l0_succ, i64_in (128 - (a : Int)) (by omega), i64_in (128 - (a : Int) - 7) (by omega)]
    have e : (decide (128 - (a : Int) - 7 ≥ (l : Int))) = true := by rw [decide_eq_true_eq]; omega
    rw [e]
    refine Rt.jm (Rt.cT rfl (Rt.some' ⟨rfl, ?_⟩))
    (repeat' (first|(with_reducible (first|apply Rt.fin|apply Rt.tL|apply Rt.tI|apply Rt.tB|apply Rt.tS|apply Rt.tP|apply Rt.tD|apply Rt.tM|apply Rt.tC|apply Rt.tN|apply Rt.tA|apply Rt.tG|apply Rt.tF|apply Rt.os|apply Rt.clS|apply Rt.jmN|apply Rt.jbN|apply Rt.jbE|apply Rt.ckR|exact Rt.some' rfl))|((with_reducible (first|apply Rt.ld0|apply Rt.ld1|apply Rt.ld2|apply Rt.ld3|apply Rt.ld4|apply Rt.ld5)); first|assumption|exact Lc.kp (by assumption) (by assumption))|((with_reducible apply Rt.ol); first|assumption|exact cell_kp (by assumption) (by assumption))|fail))
    refine Rt.jb (Rt.of (r := ⟨.norm, [.slice B l d, .int .i64 (a : Int), .slice C o.length co, .int .i64 (l : Int), .bool true, .int .u8 (kdN f true)], w⟩) (by cases f <;> rfl) (.inl ⟨.inl rfl, ?_⟩))
    (repeat' (first|(with_reducible (first|apply Rt.fin|apply Rt.tL|apply Rt.tI|apply Rt.tB|apply Rt.tS|apply Rt.tP|apply Rt.tD|apply Rt.tM|apply Rt.tC|apply Rt.tN|apply Rt.tA|apply Rt.tG|apply Rt.tF|apply Rt.os|apply Rt.clS|apply Rt.jmN|apply Rt.jbN|apply Rt.jbE|apply Rt.ckR|exact Rt.some' rfl))|((with_reducible (first|apply Rt.ld0|apply Rt.ld1|apply Rt.ld2|apply Rt.ld3|apply Rt.ld4|apply Rt.ld5)); first|assumption|exact Lc.kp (by assumption) (by assumption))|((with_reducible apply Rt.ol); first|assumption|exact cell_kp (by assumption) (by assumption))|fail))
    refine Rt.cut hb (by omega) (by omega) (by omega) fun D bD => ?_
    rw [Int.toNat_natCast, List.take_of_length_le (by omega), show Int.toNat 0 = 0 from rfl, List.drop_zero, Nat.sub_zero, Nat.sub_zero] at bD
    refine Rt.cO (rpiece_spec hn (by have := kdN_range f true; omega) (bD.kp hk) (by omega)) fun E e' w1 o1 k1 => ?_
    refine Rt.app hT (ho.kp k1) o1.sl.2 (fun h => by subst h; exact (o1.bv (pc_bytes (by have := kdN_range f true; omega) hb.rng)).nil rfl) (by rw [pc_len]; omega) (Nat.le_trans hbs k1.size) fun F f' w2 o2 hk2 _ s2 => ?_
    (repeat' (first|(with_reducible (first|apply Rt.fin|apply Rt.tL|apply Rt.tI|apply Rt.tB|apply Rt.tS|apply Rt.tP|apply Rt.tD|apply Rt.tM|apply Rt.tC|apply Rt.tN|apply Rt.tA|apply Rt.tG|apply Rt.tF|apply Rt.os|apply Rt.clS|apply Rt.jmN|apply Rt.jbN|apply Rt.jbE|apply Rt.ckR|exact Rt.some' rfl))|((with_reducible (first|apply Rt.ld0|apply Rt.ld1|apply Rt.ld2|apply Rt.ld3|apply Rt.ld4|apply Rt.ld5)); first|assumption|exact Lc.kp (by assumption) (by assumption))|((with_reducible apply Rt.ol); first|assumption|exact cell_kp (by assumption) (by assumption))|fail))
    have hl2 := o2.sl.1
    rw [hl2] at o2 ⊢
    exact Rt.cT rfl (Rt.some' ⟨rfl, F, f', w2, rfl, o2.mono h0, hk2 w0 (hk.tr k1) h0⟩)
  | @more a f r out h t ih =>
    intro h121 m w B l d C co o hm hk hb hbs h0 ho hol
    obtain ⟨m, rfl⟩ : ∃ m', m = m' + 1 := ⟨m - 1, by omega⟩
    have hrl := hb.len
    have hx : (r.take (121 - a)).length = 121 - a := by rw [List.length_take]; omega
    rw [List.length_append, pc_len, hx] at hol hm
    have hle := t.len.1
    rw [List.length_drop] at hle
    rw [butteryref6_Put.l0_succ, i64_in (128 - (a : Int)) (by omega), i64_in (128 - (a : Int) - 7) (by omega)]
    have e : (decide (128 - (a : Int) - 7 ≥ (l : Int))) = false := by rw [decide_eq_false_iff_not]; omega
    have e2 : 128 - (a : Int) - 7 = ((121 - a : Nat) : Int) := by omega
    rw [e, e2]
    refine Rt.jm (Rt.cF rfl (Rt.some' ⟨rfl, ?_⟩))
    (repeat' (first|(with_reducible (first|apply Rt.fin|apply Rt.tL|apply Rt.tI|apply Rt.tB|apply Rt.tS|apply Rt.tP|apply Rt.tD|apply Rt.tM|apply Rt.tC|apply Rt.tN|apply Rt.tA|apply Rt.tG|apply Rt.tF|apply Rt.os|apply Rt.clS|apply Rt.jmN|apply Rt.jbN|apply Rt.jbE|apply Rt.ckR|exact Rt.some' rfl))|((with_reducible (first|apply Rt.ld0|apply Rt.ld1|apply Rt.ld2|apply Rt.ld3|apply Rt.ld4|apply Rt.ld5)); first|assumption|exact Lc.kp (by assumption) (by assumption))|((with_reducible apply Rt.ol); first|assumption|exact cell_kp (by assumption) (by assumption))|fail))
    refine Rt.jb (Rt.of (r := ⟨.norm, [.slice B l d, .int .i64 (a : Int), .slice C o.length co, .int .i64 ((121 - a : Nat) : Int), .bool false, .int .u8 (kdN f false)], w⟩) (by cases f <;> rfl) (.inl ⟨.inl rfl, ?_⟩))
    (repeat' (first|(with_reducible (first|apply Rt.fin|apply Rt.tL|apply Rt.tI|apply Rt.tB|apply Rt.tS|apply Rt.tP|apply Rt.tD|apply Rt.tM|apply Rt.tC|apply Rt.tN|apply Rt.tA|apply Rt.tG|apply Rt.tF|apply Rt.os|apply Rt.clS|apply Rt.jmN|apply Rt.jbN|apply Rt.jbE|apply Rt.ckR|exact Rt.some' rfl))|((with_reducible (first|apply Rt.ld0|apply Rt.ld1|apply Rt.ld2|apply Rt.ld3|apply Rt.ld4|apply Rt.ld5)); first|assumption|exact Lc.kp (by assumption) (by assumption))|((with_reducible apply Rt.ol); first|assumption|exact cell_kp (by assumption) (by assumption))|fail))
    refine Rt.cut hb (by omega) (by omega) (by omega) fun D bD => ?_
    rw [Int.toNat_natCast, show Int.toNat 0 = 0 from rfl, List.drop_zero, Nat.sub_zero, Nat.sub_zero] at bD
    refine Rt.cO (rpiece_spec hn (by have := kdN_range f false; omega) (bD.kp hk) (by omega)) fun E e' w1 o1 k1 => ?_
    refine Rt.app hT (ho.kp k1) o1.sl.2 (fun h => by subst h; exact (o1.bv (pc_bytes (by have := kdN_range f false; omega) bD.rng)).nil rfl) (by rw [pc_len, hx]; omega) (Nat.le_trans hbs k1.size) fun F f' w2 o2 hk2 _ s2 => ?_
    (repeat' (first|(with_reducible (first|apply Rt.fin|apply Rt.tL|apply Rt.tI|apply Rt.tB|apply Rt.tS|apply Rt.tP|apply Rt.tD|apply Rt.tM|apply Rt.tC|apply Rt.tN|apply Rt.tA|apply Rt.tG|apply Rt.tF|apply Rt.os|apply Rt.clS|apply Rt.jmN|apply Rt.jbN|apply Rt.jbE|apply Rt.ckR|exact Rt.some' rfl))|((with_reducible (first|apply Rt.ld0|apply Rt.ld1|apply Rt.ld2|apply Rt.ld3|apply Rt.ld4|apply Rt.ld5)); first|assumption|exact Lc.kp (by assumption) (by assumption))|((with_reducible apply Rt.ol); first|assumption|exact cell_kp (by assumption) (by assumption))|fail))
    have hl2 := o2.sl.1
    rw [hl2] at o2 ⊢
    have k2 := hk2 w0 (hk.tr k1) h0
    refine Rt.cF rfl (Rt.cut hb (by omega) (by omega) (by omega) fun G bG => ?_)
    rw [Int.toNat_natCast, Int.toNat_natCast, List.take_of_length_le (by omega)] at bG
    have e3 : Int.tmod (IntKind.i64.wrap (IntKind.i64.wrap ((a : Int) + 7) + ((121 - a : Nat) : Int))) 128 = 0 := by
      rw [i64_in ((a : Int) + 7) (by omega), i64_in _ (by omega), show (a : Int) + 7 + ((121 - a : Nat) : Int) = 128 by omega]; rfl
    rw [e3]
    refine Rt.cDF (by decide) ?_
    have := ih (by omega) m w2 G (l - (121 - a)) (d - (121 - a)) F f' (o ++ pc sm (kdN f false) (r.take (121 - a))) (by omega) k2 bG (by have := k1.size; omega) h0 o2 (by rw [List.length_append, pc_len, hx]; omega)
    rw [List.append_assoc] at this
    exact this
theorem RPut_spec {size : Int} (hn : 2 ^ 50 < n) (hb : Bv .u8 w B l d r) (hl : l ≤ 2 ^ 34) (hsz : size < 2 ^ 63) (hp : IsPut sm size.toNat r out) : Rt (butteryref6_Put n [.int .i64 size, .slice B l d] w) (RO .u8 5 w out) := by
  obtain ⟨i, hT⟩ := slB
  obtain ⟨o, h1, rfl⟩ := hp
  have hlen := h1.len
  have hlen2 := hlen.2 (padN_mod _)
  have hrl := hb.len
  rw [butteryref6_Put_eq]
  refine Rt.fin (Rt.jm (Rt.mono (Q' := fun r => r = ⟨.norm, [.int .i64 (size.toNat : Int), .slice B l d], w⟩) ?_ ?_))
  · refine Rt.cD (fun h => Rt.some' ?_) fun h => Rt.some' ?_
    · rw [show size.toNat = 0 by omega]; rfl
    · rw [show ((size.toNat : Nat) : Int) = size by omega]
  rintro _ rfl
  refine ⟨rfl, ?_⟩
  dsimp only
  (repeat' (first|(with_reducible (first|apply Rt.fin|apply Rt.tL|apply Rt.tI|apply Rt.tB|apply Rt.tS|apply Rt.tP|apply Rt.tD|apply Rt.tM|apply Rt.tC|apply Rt.tN|apply Rt.tA|apply Rt.tG|apply Rt.tF|apply Rt.os|apply Rt.clS|apply Rt.jmN|apply Rt.jbN|apply Rt.jbE|apply Rt.ckR|exact Rt.some' rfl))|((with_reducible (first|apply Rt.ld0|apply Rt.ld1|apply Rt.ld2|apply Rt.ld3|apply Rt.ld4|apply Rt.ld5)); first|assumption|exact Lc.kp (by assumption) (by assumption))|((with_reducible apply Rt.ol); first|assumption|exact cell_kp (by assumption) (by assumption))|fail))
  have e0 : Int.tmod (size.toNat : Int) 128 = ((size.toNat % 128 : Nat) : Int) := by
    rw [Int.tmod_eq_emod_of_nonneg (by omega)]; omega
  have e1 : IntKind.i64.wrap (128 - ((size.toNat % 128 : Nat) : Int)) = ((128 - size.toNat % 128 : Nat) : Int) := by rw [i64_in _ (by omega)]; omega
  rw [e0, e1]
  refine Rt.jm (Rt.cD (fun h => ?_) fun h => ?_)
  · have hp : padN size.toNat = 128 - size.toNat % 128 := by unfold padN; rw [if_pos (by omega)]
    have ha : (size.toNat + padN size.toNat) % 128 = 0 := by omega
    refine Rt.mk hT (by omega) (by omega) fun w2 o2 k2 => ?_
    rw [Int.toNat_natCast] at o2 ⊢
    (repeat' (first|(with_reducible (first|apply Rt.fin|apply Rt.tL|apply Rt.tI|apply Rt.tB|apply Rt.tS|apply Rt.tP|apply Rt.tD|apply Rt.tM|apply Rt.tC|apply Rt.tN|apply Rt.tA|apply Rt.tG|apply Rt.tF|apply Rt.os|apply Rt.clS|apply Rt.jmN|apply Rt.jbN|apply Rt.jbE|apply Rt.ckR|exact Rt.some' rfl))|((with_reducible (first|apply Rt.ld0|apply Rt.ld1|apply Rt.ld2|apply Rt.ld3|apply Rt.ld4|apply Rt.ld5)); first|assumption|exact Lc.kp (by assumption) (by assumption))|((with_reducible apply Rt.ol); first|assumption|exact cell_kp (by assumption) (by assumption))|fail))
    refine Rt.some' ⟨rfl, ?_⟩
    (repeat' (first|(with_reducible (first|apply Rt.fin|apply Rt.tL|apply Rt.tI|apply Rt.tB|apply Rt.tS|apply Rt.tP|apply Rt.tD|apply Rt.tM|apply Rt.tC|apply Rt.tN|apply Rt.tA|apply Rt.tG|apply Rt.tF|apply Rt.os|apply Rt.clS|apply Rt.jmN|apply Rt.jbN|apply Rt.jbE|apply Rt.ckR|exact Rt.some' rfl))|((with_reducible (first|apply Rt.ld0|apply Rt.ld1|apply Rt.ld2|apply Rt.ld3|apply Rt.ld4|apply Rt.ld5)); first|assumption|exact Lc.kp (by assumption) (by assumption))|((with_reducible apply Rt.ol); first|assumption|exact cell_kp (by assumption) (by assumption))|fail))
    rw [ha] at h1
    have hl1 : (List.replicate (128 - size.toNat % 128) (0 : Int)).length = 128 - size.toNat % 128 := List.length_replicate
    have o2' : Own .u8 5 w2 w.heap.size (.slice (some ⟨w.heap.size, 0, none⟩) (List.replicate (128 - size.toNat % 128) (0 : Int)).length (128 - size.toNat % 128)) (List.replicate (128 - size.toNat % 128) 0) := by rw [hl1]; exact o2
    have := RPut_l0 (n := n) hn h1 (by omega) n w2 B l d (some ⟨w.heap.size, 0, none⟩) (128 - size.toNat % 128) _ (by omega) k2 hb k2.size (Nat.le_refl _) o2' (by rw [hl1]; omega)
    rw [hl1] at this
    rw [hp]
    exact this
  · have hp : padN size.toNat = 0 := padN_zero (by omega)
    have ha : (size.toNat + padN size.toNat) % 128 = size.toNat % 128 := by omega
    refine Rt.some' ⟨rfl, ?_⟩
    (repeat' (first|(with_reducible (first|apply Rt.fin|apply Rt.tL|apply Rt.tI|apply Rt.tB|apply Rt.tS|apply Rt.tP|apply Rt.tD|apply Rt.tM|apply Rt.tC|apply Rt.tN|apply Rt.tA|apply Rt.tG|apply Rt.tF|apply Rt.os|apply Rt.clS|apply Rt.jmN|apply Rt.jbN|apply Rt.jbE|apply Rt.ckR|exact Rt.some' rfl))|((with_reducible (first|apply Rt.ld0|apply Rt.ld1|apply Rt.ld2|apply Rt.ld3|apply Rt.ld4|apply Rt.ld5)); first|assumption|exact Lc.kp (by assumption) (by assumption))|((with_reducible apply Rt.ol); first|assumption|exact cell_kp (by assumption) (by assumption))|fail))
    rw [ha] at h1
    have := RPut_l0 (n := n) hn h1 (by omega) n w B l d none 0 [] (by omega) (Kp.rfl' w) hb (Nat.le_refl _) (Nat.le_refl _) (Own.nil w _) (by simp; omega)
    rw [hp]
    exact this
end
end Go.Proofs.YtdcdgmiojlldaaaDoor.Fr
/- Frames: how the program's functions read: noughts, a piece. -/
namespace Go.Proofs.YtdcdgmiojlldaaaDoor.Fr
open Go Big Go.RowKit Go.IntWalk Crc
set_option linter.unusedVariables false
set_option linter.unusedSimpArgs false
theorem orN {K : IntKind} {j : Nat} (hK : K = .i64 ∧ j ≤ 40 ∨ K = .u32 ∧ j ≤ 31) {x y : Int} (h0 : 0 ≤ x) (hx : x < 2 ^ j) (hy : 0 ≤ y) (h : x + y * 2 ^ j < 2 ^ 32) : bits .or K x (y * 2 ^ j) = x + y * 2 ^ j := by
  obtain ⟨x, rfl⟩ := Int.eq_ofNat_of_zero_le h0
  obtain ⟨y, rfl⟩ := Int.eq_ofNat_of_zero_le hy
  have hx : x < 2 ^ j := by have : ((x : Int)) < ((2 ^ j : Nat) : Int) := by simpa using hx
                            omega
  have e : y * 2 ^ j ||| x = x + y * 2 ^ j := by rw [Nat.mul_comm, ← Nat.two_pow_add_eq_or_of_lt hx, Nat.add_comm]
  have ec : ((y : Int) * 2 ^ j) = ((y * 2 ^ j : Nat) : Int) := by simp
  rw [ec] at h ⊢
  have hlt : x + y * 2 ^ j < 2 ^ 32 := by omega
  generalize y * 2 ^ j = z at e h hlt ⊢
  rcases hK with ⟨rfl, _⟩ | ⟨rfl, _⟩
  · have hb : (BitVec.ofNat 64 x ||| BitVec.ofNat 64 z).toNat = x + z := by
      rw [BitVec.toNat_or, BitVec.toNat_ofNat, BitVec.toNat_ofNat, Nat.mod_eq_of_lt (by omega), Nat.mod_eq_of_lt (by omega), Nat.or_comm, e]
    unfold bits
    simp only [IntKind.bits, BitVec.ofInt_natCast]
    show IntKind.i64.wrap (((BitVec.ofNat 64 x ||| BitVec.ofNat 64 z).toNat : Nat) : Int) = _
    rw [hb, i64_in _ (by omega)]; omega
  · have hb : (BitVec.ofNat 32 x ||| BitVec.ofNat 32 z).toNat = x + z := by
      rw [BitVec.toNat_or, BitVec.toNat_ofNat, BitVec.toNat_ofNat, Nat.mod_eq_of_lt (by omega), Nat.mod_eq_of_lt (by omega), Nat.or_comm, e]
    unfold bits
    simp only [IntKind.bits, BitVec.ofInt_natCast]
    show IntKind.u32.wrap (((BitVec.ofNat 32 x ||| BitVec.ofNat 32 z).toNat : Nat) : Int) = _
    rw [hb, u32_in _ (by omega)]; omega
theorem two_bytes {a b : Int} (ha : 0 ≤ a ∧ a < 256) (hb : 0 ≤ b ∧ b < 256) : bits .or .i64 (IntKind.i64.wrap a) (IntKind.i64.wrap (IntKind.i64.wrap b * 2 ^ 8)) = le [a, b] := by
  rw [i64_in a (by omega), i64_in b (by omega), i64_in (b * 2 ^ 8) (by omega), orN (.inl ⟨rfl, by decide⟩) (by omega) (by omega) (by omega) (by omega)]
  simp only [le]; omega
theorem four_bytes {a b c d : Int} (ha : 0 ≤ a ∧ a < 256) (hb : 0 ≤ b ∧ b < 256) (hc : 0 ≤ c ∧ c < 256) (hd : 0 ≤ d ∧ d < 256) :
    bits .or .u32 (bits .or .u32 (bits .or .u32 (IntKind.u32.wrap a) (IntKind.u32.wrap (IntKind.u32.wrap b * 2 ^ 8))) (IntKind.u32.wrap (IntKind.u32.wrap c * 2 ^ 16))) (IntKind.u32.wrap (IntKind.u32.wrap d * 2 ^ 24)) = le [a, b, c, d] := by
  rw [u32_in a (by omega), u32_in b (by omega), u32_in c (by omega), u32_in d (by omega), u32_in (b * 2 ^ 8) (by omega), u32_in (c * 2 ^ 16) (by omega), u32_in (d * 2 ^ 24) (by omega)]
  have e1 := orN (K := .u32) (j := 8) (x := a) (y := b) (.inr ⟨rfl, by decide⟩) (by omega) (by omega) (by omega) (by omega)
  have e2 := orN (K := .u32) (j := 16) (x := a + b * 2 ^ 8) (y := c) (.inr ⟨rfl, by decide⟩) (by omega) (by omega) (by omega) (by omega)
  have e3 := orN (K := .u32) (j := 24) (x := a + b * 2 ^ 8 + c * 2 ^ 16) (y := d) (.inr ⟨rfl, by decide⟩) (by omega) (by omega) (by omega) (by omega)
  rw [e1, e2, e3]
  simp only [le]; omega
section
variable {α : Type} {Q : α → Prop} {n : Nat} {w w0 : World} {A B C : Option Addr} {l c d base lo co at_ : Nat} {k : Int} {x r out o zs : List Int}
theorem right_l0 : ∀ (l m : Nat) (A : Option Addr) (c : Nat) (zs : List Int), l < m → l ≤ 2 ^ 40 → Bv .u8 w A l c zs →
    ∃ B p e, bytes_trimRightByte.l0 n m A l c 0 w = some ⟨.exit 0, [.slice B p e], w⟩ ∧ Bv .u8 w B p e (zs.take p) ∧ (∀ z ∈ zs.drop p, z = 0) ∧ (0 < p → zs.getD (p - 1) 0 ≠ 0) ∧ p ≤ l := by
  intro l
  induction l with
  | zero =>
    intro m A c zs hm _ hb
    obtain ⟨m, rfl⟩ : ∃ m', m = m' + 1 := ⟨m - 1, by omega⟩
    have hz : zs = [] := List.length_eq_zero_iff.1 hb.len
    subst hz
    exact ⟨A, 0, c, by rw [bytes_trimRightByte.l0_succ, cF (by simp)], hb, by simp, by omega, Nat.le_refl _⟩
  | succ l ih =>
    intro m A c zs hm hl hb
    obtain ⟨m, rfl⟩ : ∃ m', m = m' + 1 := ⟨m - 1, by omega⟩
    have hzl := hb.len
    have e1 : IntKind.i64.wrap (((l + 1 : Nat) : Int) - 1) = (l : Int) := by rw [i64_in _ (by omega)]; omega
    rw [bytes_trimRightByte.l0_succ, cT (by rw [decide_eq_true_eq]; omega), e1, hb.sl.ix (by omega) (by omega), Int.toNat_natCast]
    by_cases hz : zs.getD l 0 = 0
    · rw [hz, cT (by simp)]
      have key : Rt (cutS A c 0 (l : Int) 1 fun A4 l5 c6 => some (A4, l5, c6)) (fun p => Bv .u8 w p.1 p.2.1 p.2.2 (zs.take l) ∧ p.2.1 = l) := Rt.cut hb (by omega) (by omega) (by omega) fun B bB => Rt.some' ⟨by
        rw [Int.toNat_natCast, show Int.toNat 0 = 0 from rfl, List.drop_zero] at bB
        rw [Int.toNat_natCast, show Int.toNat 0 = 0 from rfl]; exact bB, by simp⟩
      obtain ⟨⟨B, l', c'⟩, e, hB, hl'⟩ := key
      have hl' : l' = l := hl'
      have hB : Bv .u8 w B l' c' (zs.take l) := hB
      subst hl'
      have ec : ∀ f : Option Addr → Nat → Nat → Option Res, cutS A c 0 (l' : Int) 1 f = f B l' c' := fun f => by
        unfold cutS at e ⊢
        split at e
        · rename_i hc
          rw [if_pos hc]
          injection e with e
          injection e with e1 e2
          injection e2 with e2 e3
          rw [e1, e2, e3]
        · cases e
      obtain ⟨D, p, e', g1, g2, g3, g4, g5⟩ := ih m B c' (zs.take l') (by omega) (by omega) hB
      rw [ec]
      refine ⟨D, p, e', g1, ?_, ?_, ?_, by omega⟩
      · rw [List.take_take, Nat.min_eq_left (by omega)] at g2; exact g2
      · intro z hz'
        have : zs.drop p = (zs.take l').drop p ++ [zs.getD l' 0] := by
          have h1 : zs = zs.take l' ++ [zs.getD l' 0] := by
            have := List.take_append_drop l' zs
            rw [List.drop_eq_getElem_cons (by omega), List.drop_of_length_le (by omega)] at this
            rw [List.getD_eq_getElem?_getD, List.getElem?_eq_getElem (by omega)]
            exact this.symm
          have h2 := congrArg (List.drop p) h1
          rw [List.drop_append_of_le_length (by rw [List.length_take]; omega)] at h2
          exact h2
        rw [this] at hz'
        rcases List.mem_append.1 hz' with h | h
        · exact g3 z h
        · rw [List.mem_singleton.1 h]; exact hz
      · intro hp
        have := g4 hp
        rw [List.getD_eq_getElem?_getD, List.getElem?_take, if_pos (by omega)] at this
        rw [List.getD_eq_getElem?_getD]; exact this
    · rw [cF (by simpa using hz)]
      exact ⟨A, l + 1, c, rfl, by rw [List.take_of_length_le (by omega)]; exact hb, by rw [List.drop_of_length_le (by omega)]; simp, fun _ => by simpa using hz, Nat.le_refl _⟩
theorem cut_eq {hi lo : Int} {xs : List Int} (hb : Bv .u8 w A l c xs) (h0 : 0 ≤ lo) (h1 : lo ≤ hi) (h2 : hi ≤ l) : ∃ B e, (∀ (β : Type) (f : Option Addr → Nat → Nat → Option β), cutS A c lo hi 1 f = f B (hi.toNat - lo.toNat) e) ∧ Bv .u8 w B (hi.toNat - lo.toNat) e ((xs.take hi.toNat).drop lo.toNat) := by
  have key : Rt (cutS A c lo hi 1 fun A4 l5 c6 => some (A4, l5, c6)) (fun p => Bv .u8 w p.1 p.2.1 p.2.2 ((xs.take hi.toNat).drop lo.toNat) ∧ p.2.1 = hi.toNat - lo.toNat) := Rt.cut hb h0 h1 h2 fun B bB => Rt.some' ⟨bB, rfl⟩
  obtain ⟨⟨B, l', c'⟩, e, hB, hl'⟩ := key
  have hl' : l' = hi.toNat - lo.toNat := hl'
  subst hl'
  refine ⟨B, c', fun β f => ?_, hB⟩
  unfold cutS at e ⊢
  split at e
  · rename_i hc
    rw [if_pos hc]
    injection e with e
    injection e with e1 e2
    injection e2 with e2 e3
    rw [e1, e2, e3]
  · cases e
theorem left_l0 : ∀ (l m : Nat) (A : Option Addr) (c : Nat) (zs : List Int), l < m → l ≤ 2 ^ 40 → Bv .u8 w A l c zs →
    ∃ B p e, bytes_trimLeftByte.l0 n m A l c 0 w = some ⟨.exit 0, [.slice B p e], w⟩ ∧ (p = 0 ↔ ∀ z ∈ zs, z = 0) := by
  intro l
  induction l with
  | zero =>
    intro m A c zs hm _ hb
    obtain ⟨m, rfl⟩ : ∃ m', m = m' + 1 := ⟨m - 1, by omega⟩
    have hz : zs = [] := List.length_eq_zero_iff.1 hb.len
    subst hz
    exact ⟨A, 0, c, by rw [bytes_trimLeftByte.l0_succ, cF (by simp)], by simp⟩
  | succ l ih =>
    intro m A c zs hm hl hb
    obtain ⟨m, rfl⟩ : ∃ m', m = m' + 1 := ⟨m - 1, by omega⟩
    have hzl := hb.len
    obtain ⟨z, zs, rfl⟩ : ∃ z t, zs = z :: t := by
      cases zs with
      | nil => simp at hzl
      | cons z t => exact ⟨z, t, rfl⟩
    rw [bytes_trimLeftByte.l0_succ, cT (by rw [decide_eq_true_eq]; omega), hb.sl.ix (by omega) (by omega)]
    show ∃ B p e, cond (z == 0) _ _ = _ ∧ _
    by_cases hz : z = 0
    · subst hz
      rw [cT (by simp)]
      obtain ⟨B, e, e1, hB⟩ := cut_eq hb (lo := 1) (hi := ((l + 1 : Nat) : Int)) (by omega) (by omega) (by omega)
      rw [e1]
      have e2 : (((l + 1 : Nat) : Int)).toNat - Int.toNat 1 = l := by rw [Int.toNat_natCast, show Int.toNat 1 = 1 from rfl]; omega
      rw [e2] at hB ⊢
      rw [Int.toNat_natCast, show Int.toNat 1 = 1 from rfl, List.take_of_length_le (by omega), List.drop_succ_cons, List.drop_zero] at hB
      obtain ⟨D, p, e', g1, g2⟩ := ih m B e zs (by omega) (by omega) hB
      exact ⟨D, p, e', g1, by rw [g2]; simp⟩
    · rw [cF (by simpa using hz)]
      exact ⟨A, l + 1, c, rfl, by simp [hz]⟩
theorem Trim_spec (hn : 2 ^ 50 < n) (hb : Bv .u8 w A l c zs) (hl : l ≤ 2 ^ 38) : Rt (bytes_Trim n [.slice A l c, .string ⟨#[0]⟩] w) fun r => ∃ B p e w', r = ([.slice B p e], w') ∧ Kp w w' ∧ (p = 0 ↔ ∀ z ∈ zs, z = 0) := by
  have hzl := hb.len
  rw [bytes_Trim_eq]
  refine Rt.fin (Rt.cQ (fun h => ?_) fun h => ?_)
  · have hz : zs = [] := List.length_eq_zero_iff.1 (by omega)
    subst hz
    exact Rt.some' ⟨rfl, none, 0, 0, w, rfl, Kp.rfl' w, by simp⟩
  · refine Rt.cF (by simp [ByteArray.toList_mk]) (Rt.jmX (Rt.cT rfl ?_))
    have ix : ∀ (β : Type) (f : Int → Option β), ixS ⟨#[0]⟩ 0 f = f 0 := fun β f => rfl
    rw [ix]
    refine Rt.cT rfl ?_
    rw [ix]
    obtain ⟨B, p, e, g1, g2, g3, g4, g5⟩ := right_l0 (n := n) (w := w.drew) l n A c zs (by omega) (by omega) (hb.kp (Kp.rfl' w).dr)
    have e1 : bytes_trimRightByte n [.slice A l c, .int .u8 0] w.drew = some ([.slice B p e], w.drew) := by
      rw [bytes_trimRightByte_eq, g1]; rfl
    rw [e1]
    (repeat' (first|(with_reducible (first|apply Rt.fin|apply Rt.tL|apply Rt.tI|apply Rt.tB|apply Rt.tS|apply Rt.tP|apply Rt.tD|apply Rt.tM|apply Rt.tC|apply Rt.tN|apply Rt.tA|apply Rt.tG|apply Rt.tF|apply Rt.os|apply Rt.clS|apply Rt.jmN|apply Rt.jbN|apply Rt.jbE|apply Rt.ckR|exact Rt.some' rfl))|((with_reducible (first|apply Rt.ld0|apply Rt.ld1|apply Rt.ld2|apply Rt.ld3|apply Rt.ld4|apply Rt.ld5)); first|assumption|exact Lc.kp (by assumption) (by assumption))|((with_reducible apply Rt.ol); first|assumption|exact cell_kp (by assumption) (by assumption))|fail))
    rw [ix]
    obtain ⟨D, q, f, h1, h2⟩ := left_l0 (n := n) (w := w.drew) p n B e (zs.take p) (by omega) (by omega) g2
    have e2 : bytes_trimLeftByte n [.slice B p e, .int .u8 0] w.drew = some ([if q = 0 then .slice none 0 0 else .slice D q f], w.drew) := by
      rw [bytes_trimLeftByte_eq, h1, jb_exit, tC_mk, tL_mk, tN_mk]
      by_cases hq : q = 0
      · subst hq; rfl
      · rw [cF (by simpa using hq), if_neg hq]; rfl
    rw [e2]
    have hiff : q = 0 ↔ ∀ z ∈ zs, z = 0 := by
      rw [h2]
      refine ⟨fun h z hz => ?_, fun h z hz => h z (List.mem_of_mem_take hz)⟩
      rw [← List.take_append_drop p zs] at hz
      rcases List.mem_append.1 hz with h' | h'
      · exact h z h'
      · exact g3 z h'
    by_cases hq : q = 0
    · rw [if_pos hq]
      (repeat' (first|(with_reducible (first|apply Rt.fin|apply Rt.tL|apply Rt.tI|apply Rt.tB|apply Rt.tS|apply Rt.tP|apply Rt.tD|apply Rt.tM|apply Rt.tC|apply Rt.tN|apply Rt.tA|apply Rt.tG|apply Rt.tF|apply Rt.os|apply Rt.clS|apply Rt.jmN|apply Rt.jbN|apply Rt.jbE|apply Rt.ckR|exact Rt.some' rfl))|((with_reducible (first|apply Rt.ld0|apply Rt.ld1|apply Rt.ld2|apply Rt.ld3|apply Rt.ld4|apply Rt.ld5)); first|assumption|exact Lc.kp (by assumption) (by assumption))|((with_reducible apply Rt.ol); first|assumption|exact cell_kp (by assumption) (by assumption))|fail))
      exact Rt.some' (.inr ⟨by simp, rfl, none, 0, 0, _, rfl, (Kp.rfl' w).dr, by rw [← hiff]; simp [hq]⟩)
    · rw [if_neg hq]
      (repeat' (first|(with_reducible (first|apply Rt.fin|apply Rt.tL|apply Rt.tI|apply Rt.tB|apply Rt.tS|apply Rt.tP|apply Rt.tD|apply Rt.tM|apply Rt.tC|apply Rt.tN|apply Rt.tA|apply Rt.tG|apply Rt.tF|apply Rt.os|apply Rt.clS|apply Rt.jmN|apply Rt.jbN|apply Rt.jbE|apply Rt.ckR|exact Rt.some' rfl))|((with_reducible (first|apply Rt.ld0|apply Rt.ld1|apply Rt.ld2|apply Rt.ld3|apply Rt.ld4|apply Rt.ld5)); first|assumption|exact Lc.kp (by assumption) (by assumption))|((with_reducible apply Rt.ol); first|assumption|exact cell_kp (by assumption) (by assumption))|fail))
      exact Rt.some' (.inr ⟨by simp, rfl, D, q, f, _, rfl, (Kp.rfl' w).dr, hiff⟩)
theorem noughts_spec (hn : 2 ^ 50 < n) (hb : Bv .u8 w A l c zs) (hl : l ≤ 2 ^ 38) (ha : at_ ≤ l) : Rt (frame_noughts n [.slice A l c, .int .i64 (at_ : Int)] w) fun r => ∃ b w', r = ([.int .i64 (((zs.drop at_).take (padN at_)).length : Int), .bool b], w') ∧ Kp w w' ∧ (b = true ↔ ∀ z ∈ (zs.drop at_).take (padN at_), z = 0) := by
  have hzl := hb.len
  have e0 : Int.tmod (at_ : Int) 128 = ((at_ % 128 : Nat) : Int) := by
    rw [Int.tmod_eq_emod_of_nonneg (by omega)]; omega
  have e1 : IntKind.i64.wrap (128 - ((at_ % 128 : Nat) : Int)) = ((128 - at_ % 128 : Nat) : Int) := by rw [i64_in _ (by omega)]; omega
  have e2 : IntKind.i64.wrap ((at_ : Int) + ((128 - at_ % 128 : Nat) : Int)) = ((at_ + (128 - at_ % 128) : Nat) : Int) := by rw [i64_in _ (by omega)]; omega
  rw [frame_noughts_eq, e0, e1, e2]
  refine Rt.fin (Rt.cD (fun h => ?_) fun h => ?_)
  · have hp : padN at_ = 0 := padN_zero (by omega)
    rw [hp]
    exact Rt.some' ⟨rfl, true, w, rfl, Kp.rfl' w, by simp⟩
  · have hp : padN at_ = 128 - at_ % 128 := by unfold padN; rw [if_pos (by omega)]
    rw [hp]
    have e3 : (if (l : Int) < ((at_ + (128 - at_ % 128) : Nat) : Int) then (l : Int) else ((at_ + (128 - at_ % 128) : Nat) : Int)) = ((min l (at_ + (128 - at_ % 128)) : Nat) : Int) := by split <;> omega
    rw [e3]
    have e4 : ((zs.take (min l (at_ + (128 - at_ % 128)))).drop at_) = (zs.drop at_).take (128 - at_ % 128) := by
      rw [List.drop_take, List.take_eq_take_iff, List.length_drop]; omega
    refine Rt.cut hb (by omega) (by omega) (by omega) fun B bB => ?_
    rw [Int.toNat_natCast, Int.toNat_natCast, e4] at bB
    rw [Int.toNat_natCast, Int.toNat_natCast]
    refine Rt.call (Trim_spec hn bB (by omega)) ?_
    rintro vs w1 ⟨D, p, e, w1', hr, k1, hiff⟩
    cases hr
    (repeat' (first|(with_reducible (first|apply Rt.fin|apply Rt.tL|apply Rt.tI|apply Rt.tB|apply Rt.tS|apply Rt.tP|apply Rt.tD|apply Rt.tM|apply Rt.tC|apply Rt.tN|apply Rt.tA|apply Rt.tG|apply Rt.tF|apply Rt.os|apply Rt.clS|apply Rt.jmN|apply Rt.jbN|apply Rt.jbE|apply Rt.ckR|exact Rt.some' rfl))|((with_reducible (first|apply Rt.ld0|apply Rt.ld1|apply Rt.ld2|apply Rt.ld3|apply Rt.ld4|apply Rt.ld5)); first|assumption|exact Lc.kp (by assumption) (by assumption))|((with_reducible apply Rt.ol); first|assumption|exact cell_kp (by assumption) (by assumption))|fail))
    exact Rt.some' ⟨rfl, _, w1, by rw [bB.len], k1, by rw [← hiff]; simp⟩
end
end Go.Proofs.YtdcdgmiojlldaaaDoor.Fr
/- Frames: a piece is read. -/
namespace Go.Proofs.YtdcdgmiojlldaaaDoor.Fr
open Go Big Go.RowKit Go.IntWalk Crc
set_option linter.unusedVariables false
set_option linter.unusedSimpArgs false
section
variable {α : Type} {Q : α → Prop} {n : Nat} {w w0 w1 : World} {A B C : Option Addr} {l c d base lo co at_ : Nat} {k : Int} {x r out o zs s : List Int}
theorem Rt.ixC {K : IntKind} {xs : List Int} (hs : Sl K w A l xs) {i : Int} (h0 : 0 ≤ i) (h1 : i < l) {f : Addr → Option α} (h : ∀ a, w.cell? a = some (.int K (xs.getD i.toNat 0)) → Rt (f a) Q) : Rt (ixA A l i 1 f) Q := by
  obtain ⟨a, rfl, hc⟩ := hs.at_ h0 h1
  have e : ixA (some a) l i 1 f = f (a.add i.toNat) := by
    unfold ixA
    simp only
    rw [if_pos ⟨h0, h1⟩, Nat.mul_one]
  rw [e]; exact h _ hc
theorem Rt.out2 {b : Nat} {x y : Value} {k cl : Int} {E : Option Addr} {p e : Nat} {Q : Res → Prop} (hl : Lc w b [x, y]) (hk : Kp w0 w) (hb : w0.heap.size ≤ b) (h : ∀ w', Kp w0 w' → (w.heap.size ≤ w'.heap.size) → Q ⟨.ret, [.agg #[.int .u8 k, .slice E p e], .int .i64 cl], w'⟩) :
    Rt (stC w ⟨b, 0, none⟩ (.int .u8 k) fun w16 => stC w16 (Addr.add ⟨b, 0, none⟩ 1) (.slice E p e) fun w17 => opt (w17.cell? ⟨b, 0, none⟩) fun v18 => tI .u8 v18 fun n19 => opt (w17.cell? (Addr.add ⟨b, 0, none⟩ 1)) fun v20 => tL v20 fun A21 l22 c23 => some (⟨.ret, [.agg #[.int .u8 n19, .slice A21 l22 c23], .int .i64 cl], w17⟩ : Res)) Q := by
  refine Rt.st0 hl fun w2 l2 g2 => Rt.st1 l2 fun w3 l3 g3 => ?_
  (repeat' (first|(with_reducible (first|apply Rt.fin|apply Rt.tL|apply Rt.tI|apply Rt.tB|apply Rt.tS|apply Rt.tP|apply Rt.tD|apply Rt.tM|apply Rt.tC|apply Rt.tN|apply Rt.tA|apply Rt.tG|apply Rt.tF|apply Rt.os|apply Rt.clS|apply Rt.jmN|apply Rt.jbN|apply Rt.jbE|apply Rt.ckR|exact Rt.some' rfl))|((with_reducible (first|apply Rt.ld0|apply Rt.ld1|apply Rt.ld2|apply Rt.ld3|apply Rt.ld4|apply Rt.ld5)); first|assumption|exact Lc.kp (by assumption) (by assumption))|((with_reducible apply Rt.ol); first|assumption|exact cell_kp (by assumption) (by assumption))|fail))
  have hg := g2.tr g3
  exact Rt.some' (h w3 (hk.tx hg fun j hj => by subst hj; exact hb) hg.size)
def nextC (a : Nat) (s : List Int) : Int :=
  if s.length < 7 then 1
  else if 121 - a % 128 < cnt s then 2
  else if s.length < 7 + cnt s then 1
  else if (1 ≤ kindAt s ∧ kindAt s ≤ 4) ∧ le (s.take 4) = sm (kindAt s :: body s) then 0
  else 2
theorem lookS_next {a : Nat} {s : List Int} {wi : Bool} (h : s ≠ []) : lookS sm a s wi = if nextC a s = 0 then (if (wi = true ↔ 3 ≤ kindAt s) then .go (7 + cnt s) (body s) (decide (kindAt s = 2 ∨ kindAt s = 3)) else .stop 2) else .stop (nextC a s) := by
  unfold lookS nextC
  rw [if_neg h]
  by_cases h1 : s.length < 7
  · rw [if_pos h1, if_pos h1]; rfl
  rw [if_neg h1, if_neg h1]
  by_cases h2 : 121 - a % 128 < cnt s
  · rw [if_pos h2, if_pos h2]; rfl
  rw [if_neg h2, if_neg h2]
  by_cases h3 : s.length < 7 + cnt s
  · rw [if_pos h3, if_pos h3]; rfl
  rw [if_neg h3, if_neg h3]
  by_cases h4 : (1 ≤ kindAt s ∧ kindAt s ≤ 4) ∧ le (s.take 4) = sm (kindAt s :: body s)
  · by_cases h5 : (wi = true ↔ 3 ≤ kindAt s)
    · rw [if_pos ⟨h4.1, h4.2, h5⟩, if_pos h4, if_pos rfl, if_pos h5]
    · rw [if_neg (fun h => h5 h.2.2), if_pos h4, if_pos rfl, if_neg h5]
  · rw [if_neg (fun h => h4 ⟨h.1, h.2.1⟩), if_neg h4]; rfl
theorem seven {s : List Int} (h : 7 ≤ s.length) : ∃ a b c d e f g t, s = a :: b :: c :: d :: e :: f :: g :: t := by
  match s, h with
  | a :: b :: c :: d :: e :: f :: g :: t, _ => exact ⟨_, _, _, _, _, _, _, _, rfl⟩
theorem getD_drop (zs : List Int) (i j : Nat) : (zs.drop i).getD j 0 = zs.getD (i + j) 0 := by
  simp [List.getD_eq_getElem?_getD]
theorem next_spec (hn : 2 ^ 50 < n) (ht : Sl .u32 w A 256 tab) (hk : Kp w0 w) (hb0 : Bv .u8 w0 B l d zs) (hl : l ≤ 2 ^ 38) (ha : at_ ≤ l) (hm : at_ % 128 ≤ 121) :
    Rt (frame_next n [.slice A 256 c, .slice B l d, .int .i64 (at_ : Int)] w) fun r => ∃ k E p e w', r = ([.agg #[.int .u8 k, .slice E p e], .int .i64 (nextC at_ (zs.drop at_))], w') ∧ Kp w w' ∧ (nextC at_ (zs.drop at_) = 0 → k = kindAt (zs.drop at_) ∧ Bv .u8 w0 E p e (body (zs.drop at_))) := by
  have hb := hb0.kp hk
  have hzl := hb.len
  have hsl : (zs.drop at_).length = l - at_ := by rw [List.length_drop, hzl]
  have e0 : Int.tmod (at_ : Int) 128 = ((at_ % 128 : Nat) : Int) := by
    rw [Int.tmod_eq_emod_of_nonneg (by omega)]; omega
  have e1 : IntKind.i64.wrap (128 - ((at_ % 128 : Nat) : Int)) = ((128 - at_ % 128 : Nat) : Int) := by rw [i64_in _ (by omega)]; omega
  have e2 : IntKind.i64.wrap (((128 - at_ % 128 : Nat) : Int) - 7) = ((121 - at_ % 128 : Nat) : Int) := by rw [i64_in _ (by omega)]; omega
  rw [frame_next_eq, e0, e1, e2, i64_in ((l : Int) - at_) (by omega), i64_in ((l : Int) - at_ - 7) (by omega), i64_in ((at_ : Int) + 4) (by omega), i64_in ((at_ : Int) + 5) (by omega), i64_in ((at_ : Int) + 6) (by omega), i64_in ((at_ : Int) + 7) (by omega), i64_in ((at_ : Int) + 1) (by omega), i64_in ((at_ : Int) + 2) (by omega), i64_in ((at_ : Int) + 3) (by omega)]
  refine Rt.fin (Rt.al fun w1 l1 k1 _ => ?_)
  have k1d := k1.dr
  refine Rt.cD (fun h => ?_) fun h => ?_
  · have hnc : nextC at_ (zs.drop at_) = 1 := by rw [nextC, if_pos (by omega)]
    rw [hnc]
    exact Rt.out2 l1 k1 (Nat.le_refl _) fun w' kw _ => ⟨rfl, _, _, _, _, w', rfl, kw, fun h => absurd h (by decide)⟩
  obtain ⟨a, b, c', d', e, f, g, t, hs⟩ := seven (s := zs.drop at_) (by omega)
  have hby : ∀ z ∈ zs.drop at_, 0 ≤ z ∧ z < 256 := fun z hz => u8wf (hb.rng z (List.mem_of_mem_drop hz))
  have hcnt : cnt (zs.drop at_) = (le [e, f]).toNat := by rw [hs]; rfl
  have hkd : kindAt (zs.drop at_) = g := by rw [hs]; rfl
  have h4 : (zs.drop at_).take 4 = [a, b, c', d'] := by rw [hs]; rfl
  have hbd : body (zs.drop at_) = t.take (cnt (zs.drop at_)) := by rw [body]; congr 1; rw [hs]; rfl
  have gz : ∀ (j : Nat) (v : Int), (zs.drop at_).getD j 0 = v → zs.getD ((at_ : Int) + (j : Int)).toNat 0 = v := fun j v h => by
    rw [getD_drop] at h
    rw [show ((at_ : Int) + (j : Int)).toNat = at_ + j by omega]; exact h
  have g0 : zs.getD (at_ : Int).toNat 0 = a := gz 0 a (by rw [hs]; rfl)
  have g1 : zs.getD ((at_ : Int) + 1).toNat 0 = b := gz 1 b (by rw [hs]; rfl)
  have g2 : zs.getD ((at_ : Int) + 2).toNat 0 = c' := gz 2 c' (by rw [hs]; rfl)
  have g3 : zs.getD ((at_ : Int) + 3).toNat 0 = d' := gz 3 d' (by rw [hs]; rfl)
  have g4 : zs.getD ((at_ : Int) + 4).toNat 0 = e := gz 4 e (by rw [hs]; rfl)
  have g5 : zs.getD ((at_ : Int) + 5).toNat 0 = f := gz 5 f (by rw [hs]; rfl)
  have g6 : zs.getD ((at_ : Int) + 6).toNat 0 = g := gz 6 g (by rw [hs]; rfl)
  rw [hs] at hby
  have ra := hby a (by simp)
  have rb := hby b (by simp)
  have rc := hby c' (by simp)
  have rd := hby d' (by simp)
  have re := hby e (by simp)
  have rf := hby f (by simp)
  have rg := hby g (by simp)
  refine Rt.ixC hb.sl (by omega) (by omega) fun a4 c4 => ?_
  rw [g4] at c4
  refine Rt.ol (cell_kp c4 k1d) (Rt.tI (Rt.ixC hb.sl (by omega) (by omega) fun a5 c5 => ?_))
  rw [g5] at c5
  refine Rt.ol (cell_kp c5 k1d) (Rt.tI ?_)
  have hle : (le [e, f] : Int) = (cnt (zs.drop at_) : Int) := by rw [hcnt]; simp only [le]; omega
  have hcb : cnt (zs.drop at_) < 65536 := by rw [hcnt]; simp only [le]; omega
  rw [two_bytes re rf, hle]
  refine Rt.cD (fun h2 => ?_) fun h2 => ?_
  · have hnc : nextC at_ (zs.drop at_) = 2 := by rw [nextC, if_neg (by omega), if_pos (by omega)]
    rw [hnc]
    exact Rt.out2 (w := w1.drew) l1 k1d (Nat.le_refl _) fun w' kw _ => ⟨rfl, _, _, _, _, w', rfl, kw, fun h => absurd h (by decide)⟩
  refine Rt.cD (fun h3 => ?_) fun h3 => ?_
  · have hnc : nextC at_ (zs.drop at_) = 1 := by rw [nextC, if_neg (by omega), if_neg (by omega), if_pos (by omega)]
    rw [hnc]
    exact Rt.out2 (w := w1.drew) l1 k1d (Nat.le_refl _) fun w' kw _ => ⟨rfl, _, _, _, _, w', rfl, kw, fun h => absurd h (by decide)⟩
  have k2d := k1d.dr
  refine Rt.ixC hb.sl (by omega) (by omega) fun a6 c6 => ?_
  rw [g6] at c6
  refine Rt.ol (cell_kp c6 k2d) (Rt.tI ?_)
  have e7 : IntKind.i64.wrap ((at_ : Int) + 7 + (cnt (zs.drop at_) : Int)) = ((at_ + 7 + cnt (zs.drop at_) : Nat) : Int) := by rw [i64_in _ (by omega)]; omega
  rw [e7]
  refine Rt.cut hb0 (by omega) (by omega) (by omega) fun E bE => ?_
  have e8 : ((zs.take ((at_ + 7 + cnt (zs.drop at_) : Nat) : Int).toNat).drop ((at_ : Int) + 7).toNat) = body (zs.drop at_) := by
    rw [body, List.drop_drop, List.drop_take, Int.toNat_natCast, show ((at_ : Int) + 7).toNat = at_ + 7 by omega, show at_ + 7 + cnt (zs.drop at_) - (at_ + 7) = cnt (zs.drop at_) by omega]
  rw [e8] at bE
  refine Rt.al fun w2 l2 k2 s2 => ?_
  have k12 := k2d.tr k2
  have hkk : Kp w1 w2 := ((Kp.rfl' w1).dr.dr).tr k2
  refine Rt.ck (by rw [cell_kp c6 k12, opt_some, tI_mk]) ?_
  refine Rt.st0 l2 fun w3 l3 gx3 => Rt.st1 l3 fun w4 l4 gx4 => ?_
  have hg := gx3.tr gx4
  have k4 : Kp w w4 := k12.tx hg fun j hj => by subst hj; exact Nat.le_trans k1.size (Nat.le_refl _)
  have k14 : Kp w1 w4 := hkk.tx hg fun j hj => by subst hj; exact Nat.le_refl _
  have k4d := k4.dr
  have l4d : Lc w4.drew _ _ := l4.dr'
  have l14 : Lc w4.drew w.heap.size [.int .u8 0, .slice none 0 0] := l1.kp k14.dr
  refine Rt.ixC hb.sl (by omega) (by omega) fun a0 c0 => ?_
  rw [g0] at c0
  refine Rt.ol (cell_kp c0 k4d) (Rt.tI (Rt.ixC hb.sl (by omega) (by omega) fun a1 c1 => ?_))
  rw [g1] at c1
  refine Rt.ol (cell_kp c1 k4d) (Rt.tI (Rt.ixC hb.sl (by omega) (by omega) fun a2 c2 => ?_))
  rw [g2] at c2
  refine Rt.ol (cell_kp c2 k4d) (Rt.tI (Rt.ixC hb.sl (by omega) (by omega) fun a3 c3 => ?_))
  rw [g3] at c3
  refine Rt.ol (cell_kp c3 k4d) (Rt.tI ?_)
  rw [four_bytes ra rb rc rd]
  refine Rt.ld0 l4d (Rt.tI (Rt.cD (fun h5 => ?_) fun h5 => ?_))
  · have hnc : nextC at_ (zs.drop at_) = 2 := by rw [nextC, if_neg (by omega), if_neg (by omega), if_neg (by omega), hkd, if_neg (by omega)]
    rw [hnc]
    exact Rt.out2 (w := w4.drew) l14 k4d (Nat.le_refl _) fun w' kw _ => ⟨rfl, _, _, _, _, w', rfl, kw, fun h => absurd h (by decide)⟩
  refine Rt.ld0 l4d (Rt.tI (Rt.cD (fun h6 => ?_) fun h6 => ?_))
  · have hnc : nextC at_ (zs.drop at_) = 2 := by rw [nextC, if_neg (by omega), if_neg (by omega), if_neg (by omega), hkd, if_neg (by omega)]
    rw [hnc]
    exact Rt.out2 (w := w4.drew) l14 k4d (Nat.le_refl _) fun w' kw _ => ⟨rfl, _, _, _, _, w', rfl, kw, fun h => absurd h (by decide)⟩
  refine Rt.ld0 l4d (Rt.tI (Rt.ld1 l4d (Rt.tL ?_)))
  refine Rt.cI (summed_spec (w := w4.drew) hn (ht.kp k4d) (bE.kp (hk.tr k4d)) (by omega)) fun w5 k5 => ?_
  have k45 := k4d.tr k5
  have hnc : nextC at_ (zs.drop at_) = if le [a, b, c', d'] = sm (g :: body (zs.drop at_)) then 0 else 2 := by
    rw [nextC, if_neg (by omega), if_neg (by omega), if_neg (by omega), hkd, h4]
    by_cases h' : le [a, b, c', d'] = sm (g :: body (zs.drop at_))
    · rw [if_pos h', if_pos ⟨by omega, h'⟩]
    · rw [if_neg h', if_neg (fun h => h' h.2)]
  refine Rt.cN (fun h7 => ?_) fun h7 => ?_
  · rw [if_pos h7.symm] at hnc
    refine Rt.ld0 (l4d.kp k5) (Rt.tI (Rt.ld1 (l4d.kp k5) (Rt.tL ?_)))
    rw [hnc]
    exact Rt.out2 (w := w5) (l14.kp k5) k45 (Nat.le_refl _) fun w' kw _ => ⟨rfl, _, _, _, _, w', rfl, kw, fun _ => ⟨hkd.symm, bE⟩⟩
  · rw [if_neg (fun h => h7 h.symm)] at hnc
    rw [hnc]
    exact Rt.out2 (w := w5) (l14.kp k5) k45 (Nat.le_refl _) fun w' kw _ => ⟨rfl, _, _, _, _, w', rfl, kw, fun h => absurd h (by decide)⟩
end
end Go.Proofs.YtdcdgmiojlldaaaDoor.Fr
/- Frames: a log is read by the program. -/
namespace Go.Proofs.YtdcdgmiojlldaaaDoor.Fr
open Go Big Go.RowKit Go.IntWalk Crc
set_option linter.unusedVariables false
set_option linter.unusedSimpArgs false
def byEl : El (List Int) where
  sz := 1
  rd w vs x := ∃ A l c, vs = [.slice A l c] ∧ Bv .u8 w A l c x
  kp := fun hk ⟨A, l, c, e, h⟩ => ⟨A, l, c, e, h.kp hk⟩
  one := fun ⟨A, l, c, e, h⟩ u hu => by subst e; rw [List.mem_singleton.1 hu]; rfl
theorem slL : ∃ i v, SlTE Tryd.prog 70 28 1 i v := slTE (by kernel_rfl)
section
variable {α : Type} {Q : α → Prop} {n : Nat} {w w' w0 w1 : World} {A B C : Option Addr} {l c d base lo co at_ p tk : Nat} {k : Int} {x r out o zs s now : List Int} {rs acc : List (List Int)} {wi : Bool}
theorem Own_stb {K : IntKind} {e : TypeId} {S : Nat → Prop} {xs : List Int} (h : Own K e w base (.slice A l c) xs) (hr : ∀ x ∈ xs, (Lit.int K x).wf = true) (hS : ∀ j, On (.slice A l c) j → ¬ S j) : Stb S (fun w => Bv K w A l c xs) w :=
  fun w' hg => (h.gx hg hS).bv hr
theorem OwnX_less' {γ : Type} {E : El γ} {e : TypeId} {v : Value} {xs : List γ} {S S' : Nat → Prop} (h : OwnX S E e w base v xs) (hs : ∀ k, k < w.heap.size → S' k → S k ∨ On v k) : OwnX S' E e w base v xs := by
  obtain ⟨vs, h1, h2⟩ := h
  exact ⟨vs, h1, h2.less fun k hk h => h.elim (hs k hk) .inr⟩
structure RX (w : World) (p : Nat) (A : Option Addr) (c : Nat) (B : Option Addr) (l d at_ : Nat) (R : Option Addr) (rc : Nat) (rs : List (List Int)) (N : Option Addr) (nc : Nat) (now : List Int) (wi : Bool) (tk : Nat) : Prop where
  lc : Lc w p [.slice A 256 c, .slice B l d, .int .i64 (at_ : Int), .slice R rs.length rc, .slice N now.length nc, .bool wi, .int .i64 (tk : Int)]
  ro : OwnX (fun j => j = p ∨ On (.slice N now.length nc) j) byEl 28 w (p + 1) (.slice R rs.length rc) rs
  re : Own .u8 5 w (p + 1) (.slice N now.length nc) now
  by_ : Bytes now
  ne : ∀ j, On (.slice N now.length nc) j → ¬ On (.slice R rs.length rc) j
theorem RX.np {R N : Option Addr} {rc nc : Nat} (h : RX w p A c B l d at_ R rc rs N nc now wi tk) : ∀ j, On (.slice N now.length nc) j → j ≠ p := fun j hj hp => by have := (h.re.lt j hj).1; omega
theorem RX.rp {R N : Option Addr} {rc nc : Nat} (h : RX w p A c B l d at_ R rc rs N nc now wi tk) : ∀ j, On (.slice R rs.length rc) j → j ≠ p := fun j hj hp => by have := (h.ro.lt j hj).1; omega
theorem RX.kp {R N : Option Addr} {rc nc : Nat} (h : RX w p A c B l d at_ R rc rs N nc now wi tk) (hk : Kp w w') : RX w' p A c B l d at_ R rc rs N nc now wi tk :=
  ⟨h.lc.kp hk, h.ro.kp hk, h.re.kp hk, h.by_, h.ne⟩
theorem RX.put {R N : Option Addr} {rc nc a2 tk2 : Nat} {wi2 : Bool} (h : RX w p A c B l d at_ R rc rs N nc now wi tk) (g : Gx (fun j => j = p) w w') (hl : Lc w' p [.slice A 256 c, .slice B l d, .int .i64 (a2 : Int), .slice R rs.length rc, .slice N now.length nc, .bool wi2, .int .i64 (tk2 : Int)]) : RX w' p A c B l d a2 R rc rs N nc now wi2 tk2 :=
  ⟨hl, h.ro.gx g (fun j _ hj => .inl hj) fun j hj ho => h.rp j ho hj, h.re.gx g fun j ho hj => h.np j ho hj, h.by_, h.ne⟩
def RS (w : World) (p : Nat) (A : Option Addr) (c : Nat) (B : Option Addr) (l d at_ : Nat) (rs : List (List Int)) (now : List Int) (wi : Bool) (tk : Nat) : Prop := ∃ R rc N nc, RX w p A c B l d at_ R rc rs N nc now wi tk
theorem RS.kp (h : RS w p A c B l d at_ rs now wi tk) (hk : Kp w w') : RS w' p A c B l d at_ rs now wi tk := by
  obtain ⟨R, rc, N, nc, h⟩ := h
  exact ⟨R, rc, N, nc, h.kp hk⟩
def after (at_ : Nat) (rs : List (List Int)) (now x : List Int) (u : Nat) (m : Bool) (tk : Nat) : List (List Int) × List Int × Nat := if m = true then (rs, now ++ x, tk) else (rs ++ [now ++ x], [], at_ + u)
theorem nextC_zero {a : Nat} {s : List Int} (h : nextC a s = 0) : 1 ≤ kindAt s ∧ kindAt s ≤ 4 ∧ 7 + cnt s ≤ s.length ∧ cnt s ≤ 121 := by
  unfold nextC at h
  split at h
  · cases h
  split at h
  · cases h
  split at h
  · cases h
  split at h
  · omega
  · cases h
theorem take_spec (hn : 2 ^ 50 < n) (ht : Sl .u32 w0 A 256 tab) (hb : Bv .u8 w0 B l d zs) (hl : l ≤ 2 ^ 36) (ha : at_ < l) (hm : at_ % 128 ≤ 121) (hp : w0.heap.size ≤ p) (hk : Kp w0 w) (hs : RS w p A c B l d at_ rs now wi tk) (hnow : now.length ≤ at_) (hrs : rs.length ≤ at_) :
    Rt (frame_reader_take n [.pointer (some ⟨p, 0, none⟩)] w) fun r => ∃ w', Kp w0 w' ∧ ((∃ c', lookS sm at_ (zs.drop at_) wi = .stop c' ∧ c' ≠ 0 ∧ r = ([.int .i64 c'], w') ∧ RS w' p A c B l d at_ rs now wi tk) ∨
      (∃ u x m, lookS sm at_ (zs.drop at_) wi = .go u x m ∧ r = ([.int .i64 0], w') ∧ RS w' p A c B l d (at_ + u) (after at_ rs now x u m tk).1 (after at_ rs now x u m tk).2.1 m (after at_ rs now x u m tk).2.2)) := by
  have hzl := hb.len
  have hs0 : zs.drop at_ ≠ [] := fun h => by have := congrArg List.length h; rw [List.length_drop, List.length_nil] at this; omega
  have hlk := lookS_next (a := at_) (wi := wi) hs0
  obtain ⟨R, rc, N, nc, hX⟩ := hs
  have hs : RS w p A c B l d at_ rs now wi tk := ⟨R, rc, N, nc, hX⟩
  have h1 := hX.lc
  have hpl := h1.lt
  obtain ⟨ib, hTb⟩ := slB
  obtain ⟨iL, zL, hTL⟩ := slL
  rw [frame_reader_take_eq]
  refine Rt.fin (Rt.jm (Rt.mono (Q' := fun r => ∃ p2 k E q e, r.ex = .norm ∧ r.vals = [.pointer (some ⟨p, 0, none⟩), .pointer (some ⟨p2, 0, none⟩), .int .i64 (nextC at_ (zs.drop at_))] ∧ Kp w r.w ∧ w.heap.size ≤ p2 ∧ Lc r.w p2 [.int .u8 k, .slice E q e] ∧
    (nextC at_ (zs.drop at_) = 0 → k = kindAt (zs.drop at_) ∧ Bv .u8 w0 E q e (body (zs.drop at_)))) ?_ ?_))
  · have hkd := hk.dr
    have k0 : Kp w w.drew := (Kp.rfl' w).dr
    have h1d : Lc w.drew _ _ := h1.dr'
    refine Rt.cB (fun _ => ?_) fun _ => ?_
    · (repeat' (first|(with_reducible (first|apply Rt.fin|apply Rt.tL|apply Rt.tI|apply Rt.tB|apply Rt.tS|apply Rt.tP|apply Rt.tD|apply Rt.tM|apply Rt.tC|apply Rt.tN|apply Rt.tA|apply Rt.tG|apply Rt.tF|apply Rt.os|apply Rt.clS|apply Rt.jmN|apply Rt.jbN|apply Rt.jbE|apply Rt.ckR|exact Rt.some' rfl))|((with_reducible (first|apply Rt.ld0|apply Rt.ld1|apply Rt.ld2|apply Rt.ld3|apply Rt.ld4|apply Rt.ld5)); first|assumption|exact Lc.kp (by assumption) (by assumption))|((with_reducible apply Rt.ol); first|assumption|exact cell_kp (by assumption) (by assumption))|fail))
      refine Rt.call (next_spec (w := w.drew) hn (ht.kp hkd) hkd hb (by omega) (by omega) hm) ?_
      rintro vs w2 ⟨k, E, q, e, w2', hr, k2, hx⟩
      cases hr
      (repeat' (first|(with_reducible (first|apply Rt.fin|apply Rt.tL|apply Rt.tI|apply Rt.tB|apply Rt.tS|apply Rt.tP|apply Rt.tD|apply Rt.tM|apply Rt.tC|apply Rt.tN|apply Rt.tA|apply Rt.tG|apply Rt.tF|apply Rt.os|apply Rt.clS|apply Rt.jmN|apply Rt.jbN|apply Rt.jbE|apply Rt.ckR|exact Rt.some' rfl))|((with_reducible (first|apply Rt.ld0|apply Rt.ld1|apply Rt.ld2|apply Rt.ld3|apply Rt.ld4|apply Rt.ld5)); first|assumption|exact Lc.kp (by assumption) (by assumption))|((with_reducible apply Rt.ol); first|assumption|exact cell_kp (by assumption) (by assumption))|fail))
      have k02 := k0.tr k2
      refine Rt.al fun w3 l3 k3 _ => Rt.st0 l3 fun w4 l4 g4 => Rt.st1 l4 fun w5 l5 g5 => ?_
      have hg := g4.tr g5
      have k5 : Kp w w5 := (k02.tr k3).tx hg fun j hj => by subst hj; exact k02.size
      exact Rt.some' ⟨w2.heap.size, k, E, q, e, rfl, rfl, k5, k02.size, l5, hx⟩
    · (repeat' (first|(with_reducible (first|apply Rt.fin|apply Rt.tL|apply Rt.tI|apply Rt.tB|apply Rt.tS|apply Rt.tP|apply Rt.tD|apply Rt.tM|apply Rt.tC|apply Rt.tN|apply Rt.tA|apply Rt.tG|apply Rt.tF|apply Rt.os|apply Rt.clS|apply Rt.jmN|apply Rt.jbN|apply Rt.jbE|apply Rt.ckR|exact Rt.some' rfl))|((with_reducible (first|apply Rt.ld0|apply Rt.ld1|apply Rt.ld2|apply Rt.ld3|apply Rt.ld4|apply Rt.ld5)); first|assumption|exact Lc.kp (by assumption) (by assumption))|((with_reducible apply Rt.ol); first|assumption|exact cell_kp (by assumption) (by assumption))|fail))
      refine Rt.al fun w2 l2 k2 s2 => ?_
      have h12 := h1d.kp k2
      have k02 := k0.tr k2
      refine Rt.ckR (Rt.ld2 h12 (Rt.tI (Rt.some' rfl))) (Rt.ckR (Rt.ld1 h12 (Rt.tL (Rt.some' rfl))) (Rt.ckR (Rt.ld0 h12 (Rt.tL (Rt.some' rfl))) ?_))
      have hk2 := hk.tr k02
      refine Rt.call (next_spec (w := w2) hn (ht.kp hk2) hk2 hb (by omega) (by omega) hm) ?_
      rintro vs w3 ⟨k, E, q, e, w3', hr, k3, hx⟩
      cases hr
      (repeat' (first|(with_reducible (first|apply Rt.fin|apply Rt.tL|apply Rt.tI|apply Rt.tB|apply Rt.tS|apply Rt.tP|apply Rt.tD|apply Rt.tM|apply Rt.tC|apply Rt.tN|apply Rt.tA|apply Rt.tG|apply Rt.tF|apply Rt.os|apply Rt.clS|apply Rt.jmN|apply Rt.jbN|apply Rt.jbE|apply Rt.ckR|exact Rt.some' rfl))|((with_reducible (first|apply Rt.ld0|apply Rt.ld1|apply Rt.ld2|apply Rt.ld3|apply Rt.ld4|apply Rt.ld5)); first|assumption|exact Lc.kp (by assumption) (by assumption))|((with_reducible apply Rt.ol); first|assumption|exact cell_kp (by assumption) (by assumption))|fail))
      refine Rt.st0 (l2.kp k3) fun w4 l4 g4 => Rt.st1 l4 fun w5 l5 g5 => ?_
      have hg := g4.tr g5
      have k5 : Kp w w5 := (k02.tr k3).tx hg fun j hj => by subst hj; exact Nat.le_refl _
      exact Rt.some' ⟨w.drew.heap.size, k, E, q, e, rfl, rfl, k5, Nat.le_refl _, l5, hx⟩
  · rintro ⟨ex, vs, w2⟩ ⟨p2, k, E, q, e, g1, g2, k2, hp2, l2, hx⟩
    dsimp only at g1 g2 k2 l2
    subst g1 g2
    refine ⟨rfl, ?_⟩
    (repeat' (first|(with_reducible (first|apply Rt.fin|apply Rt.tL|apply Rt.tI|apply Rt.tB|apply Rt.tS|apply Rt.tP|apply Rt.tD|apply Rt.tM|apply Rt.tC|apply Rt.tN|apply Rt.tA|apply Rt.tG|apply Rt.tF|apply Rt.os|apply Rt.clS|apply Rt.jmN|apply Rt.jbN|apply Rt.jbE|apply Rt.ckR|exact Rt.some' rfl))|((with_reducible (first|apply Rt.ld0|apply Rt.ld1|apply Rt.ld2|apply Rt.ld3|apply Rt.ld4|apply Rt.ld5)); first|assumption|exact Lc.kp (by assumption) (by assumption))|((with_reducible apply Rt.ol); first|assumption|exact cell_kp (by assumption) (by assumption))|fail))
    refine Rt.cN (fun h0 => ?_) fun h0 => Rt.some' ⟨rfl, w2, hk.tr k2, .inl ⟨_, by rw [hlk, if_neg h0], h0, rfl, hs.kp k2⟩⟩
    obtain ⟨hkk, bE⟩ := hx h0
    rw [if_pos h0] at hlk
    obtain ⟨hk1, hk4, hc1, hc2⟩ := nextC_zero h0
    rw [← hkk] at hk1 hk4 hlk
    have h12 := h1.kp k2
    have l2d : Lc w2.drew _ _ := l2.dr'
    have h1d : Lc w2.drew _ _ := h12.dr'
    have hkc : k = 1 ∨ k = 2 ∨ k = 3 ∨ k = 4 := by omega
    by_cases hwi : (wi = true ↔ 3 ≤ k)
    · rw [if_pos hwi] at hlk
      refine Rt.jm (Rt.mono (Q' := fun r => r = ⟨.norm, [.pointer (some ⟨p, 0, none⟩), .pointer (some ⟨p2, 0, none⟩)], w2.drew⟩) ?_ ?_)
      · dsimp only
        (repeat' (first|(with_reducible (first|apply Rt.fin|apply Rt.tL|apply Rt.tI|apply Rt.tB|apply Rt.tS|apply Rt.tP|apply Rt.tD|apply Rt.tM|apply Rt.tC|apply Rt.tN|apply Rt.tA|apply Rt.tG|apply Rt.tF|apply Rt.os|apply Rt.clS|apply Rt.jmN|apply Rt.jbN|apply Rt.jbE|apply Rt.ckR|exact Rt.some' rfl))|((with_reducible (first|apply Rt.ld0|apply Rt.ld1|apply Rt.ld2|apply Rt.ld3|apply Rt.ld4|apply Rt.ld5)); first|assumption|exact Lc.kp (by assumption) (by assumption))|((with_reducible apply Rt.ol); first|assumption|exact cell_kp (by assumption) (by assumption))|fail))
        clear hs hX hlk hx bE h1 h12 l2 hkk
        rcases hkc with rfl | rfl | rfl | rfl <;> cases wi <;> first | exact absurd hwi (by decide) | exact Rt.cT rfl (Rt.cF rfl (Rt.some' rfl)) | (refine Rt.cF rfl ?_; (repeat' (first|(with_reducible (first|apply Rt.fin|apply Rt.tL|apply Rt.tI|apply Rt.tB|apply Rt.tS|apply Rt.tP|apply Rt.tD|apply Rt.tM|apply Rt.tC|apply Rt.tN|apply Rt.tA|apply Rt.tG|apply Rt.tF|apply Rt.os|apply Rt.clS|apply Rt.jmN|apply Rt.jbN|apply Rt.jbE|apply Rt.ckR|exact Rt.some' rfl))|((with_reducible (first|apply Rt.ld0|apply Rt.ld1|apply Rt.ld2|apply Rt.ld3|apply Rt.ld4|apply Rt.ld5)); first|assumption|exact Lc.kp (by assumption) (by assumption))|((with_reducible apply Rt.ol); first|assumption|exact cell_kp (by assumption) (by assumption))|fail)); exact Rt.cF rfl (Rt.some' rfl))
      · rintro _ rfl
        refine ⟨rfl, ?_⟩
        dsimp only
        have k2dd : Kp w w2.drew.drew := k2.dr.dr
        have l2dd : Lc w2.drew.drew _ _ := l2d.dr'
        have h1dd : Lc w2.drew.drew _ _ := h1d.dr'
        have hcl : (body (zs.drop at_)).length = cnt (zs.drop at_) := by rw [body, List.length_take, List.length_drop]; omega
        have hq : q = cnt (zs.drop at_) := by rw [← bE.len, hcl]
        rw [List.length_drop] at hc1
        (repeat' (first|(with_reducible (first|apply Rt.fin|apply Rt.tL|apply Rt.tI|apply Rt.tB|apply Rt.tS|apply Rt.tP|apply Rt.tD|apply Rt.tM|apply Rt.tC|apply Rt.tN|apply Rt.tA|apply Rt.tG|apply Rt.tF|apply Rt.os|apply Rt.clS|apply Rt.jmN|apply Rt.jbN|apply Rt.jbE|apply Rt.ckR|exact Rt.some' rfl))|((with_reducible (first|apply Rt.ld0|apply Rt.ld1|apply Rt.ld2|apply Rt.ld3|apply Rt.ld4|apply Rt.ld5)); first|assumption|exact Lc.kp (by assumption) (by assumption))|((with_reducible apply Rt.ol); first|assumption|exact cell_kp (by assumption) (by assumption))|fail))
        rw [i64_in ((7 : Int) + (q : Int)) (by omega), i64_in _ (by omega), show (at_ : Int) + (7 + (q : Int)) = ((at_ + (7 + cnt (zs.drop at_)) : Nat) : Int) by omega]
        refine Rt.stn (j := 2) h1dd (by simp) fun w5 m1 g5 => ?_
        have X5 : RX w5 p A c B l d (at_ + (7 + cnt (zs.drop at_))) R rc rs N nc now wi tk := (hX.kp k2dd).put g5 m1
        have m1 := X5.lc
        have k5 : Kp w0 w5 := (hk.tr k2dd).tx g5 fun j hj => by subst hj; exact hp
        have l5 : Lc w5 p2 _ := l2dd.gx g5 (by omega)
        have l5d : Lc w5.drew _ _ := l5.dr'
        have m1d : Lc w5.drew _ _ := m1.dr'
        have hps := m1.lt
        (repeat' (first|(with_reducible (first|apply Rt.fin|apply Rt.tL|apply Rt.tI|apply Rt.tB|apply Rt.tS|apply Rt.tP|apply Rt.tD|apply Rt.tM|apply Rt.tC|apply Rt.tN|apply Rt.tA|apply Rt.tG|apply Rt.tF|apply Rt.os|apply Rt.clS|apply Rt.jmN|apply Rt.jbN|apply Rt.jbE|apply Rt.ckR|exact Rt.some' rfl))|((with_reducible (first|apply Rt.ld0|apply Rt.ld1|apply Rt.ld2|apply Rt.ld3|apply Rt.ld4|apply Rt.ld5)); first|assumption|exact Lc.kp (by assumption) (by assumption))|((with_reducible apply Rt.ol); first|assumption|exact cell_kp (by assumption) (by assumption))|fail))
        have hnl : now.length + q ≤ 2 ^ 40 := by omega
        refine Rt.appO hTb X5.re.dr (bE.kp k5.dr).sl bE.nil (by omega) hps fun N2 nc2 w6 o6 hN2 g6 => ?_
        (repeat' (first|(with_reducible (first|apply Rt.fin|apply Rt.tL|apply Rt.tI|apply Rt.tB|apply Rt.tS|apply Rt.tP|apply Rt.tD|apply Rt.tM|apply Rt.tC|apply Rt.tN|apply Rt.tA|apply Rt.tG|apply Rt.tF|apply Rt.os|apply Rt.clS|apply Rt.jmN|apply Rt.jbN|apply Rt.jbE|apply Rt.ckR|exact Rt.some' rfl))|((with_reducible (first|apply Rt.ld0|apply Rt.ld1|apply Rt.ld2|apply Rt.ld3|apply Rt.ld4|apply Rt.ld5)); first|assumption|exact Lc.kp (by assumption) (by assumption))|((with_reducible apply Rt.ol); first|assumption|exact cell_kp (by assumption) (by assumption))|fail))
        have g6 : Gx (On (.slice N now.length nc)) w5 w6 := ((Kp.rfl' w5).dr.gx).tr g6
        have hN2 : ∀ j, On (.slice N2 (now.length + q) nc2) j → On (.slice N now.length nc) j ∨ w5.heap.size ≤ j := hN2
        have hlt : now.length + q = (now ++ body (zs.drop at_)).length := by rw [List.length_append, hcl, hq]
        rw [hlt] at o6 hN2 ⊢
        have m6 := m1.gx g6 (fun h => X5.np p h rfl)
        have l6 := l5.gx g6 (fun h => by have := (hX.re.lt _ h).2; omega)
        have ro6 := ((OwnX_less' X5.ro (S' := fun j => (j = p ∨ On (.slice N2 (now ++ body (zs.drop at_)).length nc2) j) ∨ On (.slice N now.length nc) j) (fun j hj hS => by
          rcases hS with (hS | hS) | hS
          · exact .inl (.inl hS)
          · rcases hN2 j hS with h | h
            · exact .inl (.inr h)
            · omega
          · exact .inl (.inr hS))).gx g6 (fun j _ hj => .inr hj) X5.ne).less (S' := fun j => j = p ∨ On (.slice N2 (now ++ body (zs.drop at_)).length nc2) j) fun j hj => .inl hj
        have ne6 : ∀ j, On (.slice N2 (now ++ body (zs.drop at_)).length nc2) j → ¬ On (.slice R rs.length rc) j := fun j hj hr => by
          rcases hN2 j hj with h | h
          · exact X5.ne j h hr
          · have := (X5.ro.lt j hr).2; omega
        have np6 : ∀ j, On (.slice N2 (now ++ body (zs.drop at_)).length nc2) j → j ≠ p := fun j hj hp' => by have := (o6.lt j hj).1; omega
        have by6 : Bytes (now ++ body (zs.drop at_)) := fun z hz => by
          rcases List.mem_append.1 hz with h | h
          · exact hX.by_ z h
          · exact bE.rng z h
        refine Rt.stn (j := 4) m6 (by simp) fun w7 m7 g7 => ?_
        have X7 : RX w7 p A c B l d (at_ + (7 + cnt (zs.drop at_))) R rc rs N2 nc2 (now ++ body (zs.drop at_)) wi tk :=
          ⟨m7, ro6.gx g7 (fun j _ hj => .inl hj) fun j hj ho => X5.rp j ho hj, o6.gx g7 fun j ho hj => np6 j ho hj, by6, ne6⟩
        have m7 := X7.lc
        have l7 := l6.gx g7 (by show ¬ p2 = p; omega)
        have k7 : Kp w0 w7 := (k5.tx g6 fun j hj => by have := (X5.re.lt j hj).1; omega).tx g7 fun j hj => by subst hj; exact hp
        refine Rt.jm (Rt.mono (Q' := fun r => ∃ w8, r = ⟨.norm, [.pointer (some ⟨p, 0, none⟩)], w8⟩ ∧ Kp w0 w8 ∧ RX w8 p A c B l d (at_ + (7 + cnt (zs.drop at_))) R rc rs N2 nc2 (now ++ body (zs.drop at_)) (decide (k = 2 ∨ k = 3)) tk) ?_ ?_)
        · (repeat' (first|(with_reducible (first|apply Rt.fin|apply Rt.tL|apply Rt.tI|apply Rt.tB|apply Rt.tS|apply Rt.tP|apply Rt.tD|apply Rt.tM|apply Rt.tC|apply Rt.tN|apply Rt.tA|apply Rt.tG|apply Rt.tF|apply Rt.os|apply Rt.clS|apply Rt.jmN|apply Rt.jbN|apply Rt.jbE|apply Rt.ckR|exact Rt.some' rfl))|((with_reducible (first|apply Rt.ld0|apply Rt.ld1|apply Rt.ld2|apply Rt.ld3|apply Rt.ld4|apply Rt.ld5)); first|assumption|exact Lc.kp (by assumption) (by assumption))|((with_reducible apply Rt.ol); first|assumption|exact cell_kp (by assumption) (by assumption))|fail))
          refine Rt.cQ (fun h2 => ?_) fun h2 => ?_
          · (repeat' (first|(with_reducible (first|apply Rt.fin|apply Rt.tL|apply Rt.tI|apply Rt.tB|apply Rt.tS|apply Rt.tP|apply Rt.tD|apply Rt.tM|apply Rt.tC|apply Rt.tN|apply Rt.tA|apply Rt.tG|apply Rt.tF|apply Rt.os|apply Rt.clS|apply Rt.jmN|apply Rt.jbN|apply Rt.jbE|apply Rt.ckR|exact Rt.some' rfl))|((with_reducible (first|apply Rt.ld0|apply Rt.ld1|apply Rt.ld2|apply Rt.ld3|apply Rt.ld4|apply Rt.ld5)); first|assumption|exact Lc.kp (by assumption) (by assumption))|((with_reducible apply Rt.ol); first|assumption|exact cell_kp (by assumption) (by assumption))|fail))
            refine Rt.stn (j := 5) m7 (by simp) fun w8 m8 g8 => Rt.some' ⟨w8, rfl, k7.tx g8 fun j hj => by subst hj; exact hp, X7.put g8 ?_⟩
            rw [decide_eq_true (.inl h2)]; exact m8
          · (repeat' (first|(with_reducible (first|apply Rt.fin|apply Rt.tL|apply Rt.tI|apply Rt.tB|apply Rt.tS|apply Rt.tP|apply Rt.tD|apply Rt.tM|apply Rt.tC|apply Rt.tN|apply Rt.tA|apply Rt.tG|apply Rt.tF|apply Rt.os|apply Rt.clS|apply Rt.jmN|apply Rt.jbN|apply Rt.jbE|apply Rt.ckR|exact Rt.some' rfl))|((with_reducible (first|apply Rt.ld0|apply Rt.ld1|apply Rt.ld2|apply Rt.ld3|apply Rt.ld4|apply Rt.ld5)); first|assumption|exact Lc.kp (by assumption) (by assumption))|((with_reducible apply Rt.ol); first|assumption|exact cell_kp (by assumption) (by assumption))|fail))
            refine Rt.stn (j := 5) m7 (by simp) fun w8 m8 g8 => Rt.some' ⟨w8, rfl, k7.tx g8 fun j hj => by subst hj; exact hp, X7.put g8 ?_⟩
            have : decide (k = 2 ∨ k = 3) = (k == 3) := by rw [Bool.eq_iff_iff]; simp [h2]
            rw [this]; exact m8
        · rintro _ ⟨w8, rfl, k8, X8⟩
          refine ⟨rfl, ?_⟩
          dsimp only
          have m8 := X8.lc
          (repeat' (first|(with_reducible (first|apply Rt.fin|apply Rt.tL|apply Rt.tI|apply Rt.tB|apply Rt.tS|apply Rt.tP|apply Rt.tD|apply Rt.tM|apply Rt.tC|apply Rt.tN|apply Rt.tA|apply Rt.tG|apply Rt.tF|apply Rt.os|apply Rt.clS|apply Rt.jmN|apply Rt.jbN|apply Rt.jbE|apply Rt.ckR|exact Rt.some' rfl))|((with_reducible (first|apply Rt.ld0|apply Rt.ld1|apply Rt.ld2|apply Rt.ld3|apply Rt.ld4|apply Rt.ld5)); first|assumption|exact Lc.kp (by assumption) (by assumption))|((with_reducible apply Rt.ol); first|assumption|exact cell_kp (by assumption) (by assumption))|fail))
          refine Rt.jm (Rt.mono (Q' := fun r => ∃ w9, r = ⟨.norm, [], w9⟩ ∧ Kp w0 w9 ∧ RS w9 p A c B l d (at_ + (7 + cnt (zs.drop at_))) (after at_ rs now (body (zs.drop at_)) (7 + cnt (zs.drop at_)) (decide (k = 2 ∨ k = 3)) tk).1 (after at_ rs now (body (zs.drop at_)) (7 + cnt (zs.drop at_)) (decide (k = 2 ∨ k = 3)) tk).2.1 (decide (k = 2 ∨ k = 3)) (after at_ rs now (body (zs.drop at_)) (7 + cnt (zs.drop at_)) (decide (k = 2 ∨ k = 3)) tk).2.2) ?_ ?_)
          · (repeat' (first|(with_reducible (first|apply Rt.fin|apply Rt.tL|apply Rt.tI|apply Rt.tB|apply Rt.tS|apply Rt.tP|apply Rt.tD|apply Rt.tM|apply Rt.tC|apply Rt.tN|apply Rt.tA|apply Rt.tG|apply Rt.tF|apply Rt.os|apply Rt.clS|apply Rt.jmN|apply Rt.jbN|apply Rt.jbE|apply Rt.ckR|exact Rt.some' rfl))|((with_reducible (first|apply Rt.ld0|apply Rt.ld1|apply Rt.ld2|apply Rt.ld3|apply Rt.ld4|apply Rt.ld5)); first|assumption|exact Lc.kp (by assumption) (by assumption))|((with_reducible apply Rt.ol); first|assumption|exact cell_kp (by assumption) (by assumption))|fail))
            generalize decide (k = 2 ∨ k = 3) = mm at X8 m8 ⊢
            cases mm with
            | true => exact Rt.cF rfl (Rt.some' ⟨w8, rfl, k8, R, rc, N2, nc2, X8⟩)
            | false =>
              refine Rt.cT rfl ?_
              have m8d : Lc w8.drew _ _ := m8.dr'
              have X8d := X8.kp (Kp.rfl' w8).dr
              have k8d := k8.dr
              (repeat' (first|(with_reducible (first|apply Rt.fin|apply Rt.tL|apply Rt.tI|apply Rt.tB|apply Rt.tS|apply Rt.tP|apply Rt.tD|apply Rt.tM|apply Rt.tC|apply Rt.tN|apply Rt.tA|apply Rt.tG|apply Rt.tF|apply Rt.os|apply Rt.clS|apply Rt.jmN|apply Rt.jbN|apply Rt.jbE|apply Rt.ckR|exact Rt.some' rfl))|((with_reducible (first|apply Rt.ld0|apply Rt.ld1|apply Rt.ld2|apply Rt.ld3|apply Rt.ld4|apply Rt.ld5)); first|assumption|exact Lc.kp (by assumption) (by assumption))|((with_reducible apply Rt.ol); first|assumption|exact cell_kp (by assumption) (by assumption))|fail))
              refine Rt.al fun w9 l9 k9 s9 => ?_
              have X9 := X8d.kp k9
              have m9 := X9.lc
              have k09 := k8d.tr k9
              refine Rt.ckR (Rt.ldn (j := 3) m9 rfl (Rt.tL (Rt.some' rfl))) ?_
              have hp9 := m9.lt
              refine Rt.app1L (S := fun j => j = p) (x := now ++ body (zs.drop at_)) rfl hTL (X9.ro.less fun j hj => .inl hj) l9 rfl (fun w2 hg => ⟨N2, _, nc2, rfl, (Own_stb X9.re by6 fun j hj hS => hS.elim (X9.np j hj) (X9.ne j hj)) w2 hg⟩) (by omega) hp9 fun R2 rc2 w10 ro10 g10 s10 => ?_
              have hlr : rs.length + 1 = (rs ++ [now ++ body (zs.drop at_)]).length := by simp
              rw [hlr] at ro10 ⊢
              have m10 := m9.gx g10 fun h => X9.rp p h rfl
              (repeat' (first|(with_reducible (first|apply Rt.fin|apply Rt.tL|apply Rt.tI|apply Rt.tB|apply Rt.tS|apply Rt.tP|apply Rt.tD|apply Rt.tM|apply Rt.tC|apply Rt.tN|apply Rt.tA|apply Rt.tG|apply Rt.tF|apply Rt.os|apply Rt.clS|apply Rt.jmN|apply Rt.jbN|apply Rt.jbE|apply Rt.ckR|exact Rt.some' rfl))|((with_reducible (first|apply Rt.ld0|apply Rt.ld1|apply Rt.ld2|apply Rt.ld3|apply Rt.ld4|apply Rt.ld5)); first|assumption|exact Lc.kp (by assumption) (by assumption))|((with_reducible apply Rt.ol); first|assumption|exact cell_kp (by assumption) (by assumption))|fail))
              refine Rt.stn (j := 3) m10 (by simp) fun w11 m11 g11 => Rt.os (Rt.stn (j := 4) m11 (by simp) fun w12 m12 g12 => Rt.os (Rt.stn (j := 6) m12 (by simp) fun w13 m13 g13 => ?_))
              have g13 := (g11.tr g12).tr g13
              refine Rt.some' ⟨w13, rfl, ((k09.tx g10 fun j hj => by have := (X9.ro.lt j hj).1; omega)).tx g13 fun j hj => by subst hj; exact hp, R2, rc2, none, 0, m13, ?_, Own.nil _ _, (fun z hz => by cases hz), fun j hj => by cases hj⟩
              refine (ro10.gx g13 (fun j _ hj => hj) fun j hj ho => ?_).less fun j hj => hj.elim id fun h => by cases h
              have := (ro10.lt j ho).1
              subst hj; omega
          · rintro _ ⟨w9, rfl, k9, X9⟩
            refine ⟨rfl, ?_⟩
            dsimp only
            (repeat' (first|(with_reducible (first|apply Rt.fin|apply Rt.tL|apply Rt.tI|apply Rt.tB|apply Rt.tS|apply Rt.tP|apply Rt.tD|apply Rt.tM|apply Rt.tC|apply Rt.tN|apply Rt.tA|apply Rt.tG|apply Rt.tF|apply Rt.os|apply Rt.clS|apply Rt.jmN|apply Rt.jbN|apply Rt.jbE|apply Rt.ckR|exact Rt.some' rfl))|((with_reducible (first|apply Rt.ld0|apply Rt.ld1|apply Rt.ld2|apply Rt.ld3|apply Rt.ld4|apply Rt.ld5)); first|assumption|exact Lc.kp (by assumption) (by assumption))|((with_reducible apply Rt.ol); first|assumption|exact cell_kp (by assumption) (by assumption))|fail))
            exact Rt.some' ⟨rfl, w9, k9, .inr ⟨_, _, _, hlk, rfl, X9⟩⟩
    · rw [if_neg hwi] at hlk
      refine Rt.jmX (Rt.mono (Q' := fun r => r = ⟨.ret, [.int .i64 2], w2.drew⟩) ?_ ?_)
      · dsimp only
        (repeat' (first|(with_reducible (first|apply Rt.fin|apply Rt.tL|apply Rt.tI|apply Rt.tB|apply Rt.tS|apply Rt.tP|apply Rt.tD|apply Rt.tM|apply Rt.tC|apply Rt.tN|apply Rt.tA|apply Rt.tG|apply Rt.tF|apply Rt.os|apply Rt.clS|apply Rt.jmN|apply Rt.jbN|apply Rt.jbE|apply Rt.ckR|exact Rt.some' rfl))|((with_reducible (first|apply Rt.ld0|apply Rt.ld1|apply Rt.ld2|apply Rt.ld3|apply Rt.ld4|apply Rt.ld5)); first|assumption|exact Lc.kp (by assumption) (by assumption))|((with_reducible apply Rt.ol); first|assumption|exact cell_kp (by assumption) (by assumption))|fail))
        clear hs hX hlk hx bE h1 h12 l2 hkk
        rcases hkc with rfl | rfl | rfl | rfl <;> cases wi <;> first | exact absurd (by decide) hwi | exact Rt.cT rfl (Rt.cT rfl (Rt.some' rfl)) | (refine Rt.cF rfl ?_; (repeat' (first|(with_reducible (first|apply Rt.fin|apply Rt.tL|apply Rt.tI|apply Rt.tB|apply Rt.tS|apply Rt.tP|apply Rt.tD|apply Rt.tM|apply Rt.tC|apply Rt.tN|apply Rt.tA|apply Rt.tG|apply Rt.tF|apply Rt.os|apply Rt.clS|apply Rt.jmN|apply Rt.jbN|apply Rt.jbE|apply Rt.ckR|exact Rt.some' rfl))|((with_reducible (first|apply Rt.ld0|apply Rt.ld1|apply Rt.ld2|apply Rt.ld3|apply Rt.ld4|apply Rt.ld5)); first|assumption|exact Lc.kp (by assumption) (by assumption))|((with_reducible apply Rt.ol); first|assumption|exact cell_kp (by assumption) (by assumption))|fail)); exact Rt.cT rfl (Rt.some' rfl))
      · rintro _ rfl
        exact .inr ⟨(fun h => by cases h), rfl, w2.drew, (hk.tr k2).dr, .inl ⟨2, hlk, by decide, rfl, hs.kp k2.dr⟩⟩
end
end Go.Proofs.YtdcdgmiojlldaaaDoor.Fr
/- Frames: the whole of a log is read by the program. -/
namespace Go.Proofs.YtdcdgmiojlldaaaDoor.Fr
open Go Big Go.RowKit Go.IntWalk Crc
set_option linter.unusedVariables false
set_option linter.unusedSimpArgs false
section
variable {α : Type} {Q : Res → Prop} {n m : Nat} {w w' w0 w1 : World} {A B C : Option Addr} {l c d base lo co at_ p tk : Nat} {k : Int} {x r out o zs s now : List Int} {rs acc : List (List Int)} {wi : Bool}
theorem OwnX_ev {γ : Type} {E : El γ} {e : TypeId} {S : Nat → Prop} {xs : List γ} (h : OwnX S E e w base (.slice A l c) xs) : Ev E w A l c xs := h.ownE.ev
theorem All_g1 (hs : RS w p A c B l d at_ acc now wi tk) {cl : Int} (hm : 0 < m) (h : ∀ R rc, Ev byEl w.drew R acc.length rc acc → Q ⟨.ret, [.slice R acc.length rc, .int .i64 (tk : Int), .int .i64 cl], w.drew⟩) : Rt (frame_All.g1 n m ⟨p, 0, none⟩ cl w) Q := by
  obtain ⟨m, rfl⟩ : ∃ m', m = m' + 1 := ⟨m - 1, by omega⟩
  obtain ⟨R, rc, N, nc, hX⟩ := hs.kp (Kp.rfl' w).dr
  have h1 := hX.lc
  rw [frame_All.g1_succ]
  refine Rt.ldn (j := 3) h1 rfl (Rt.tL (Rt.ldn (j := 6) h1 rfl (Rt.tI (Rt.some' (h R rc (OwnX_ev hX.ro))))))
theorem lookP_split {at_ : Nat} {s : List Int} {wi : Bool} (h : ∀ z ∈ s.take (padN at_), z = 0) : lookP sm at_ s wi = (lookS sm (at_ + (s.take (padN at_)).length) (s.drop (padN at_)) wi).on (s.take (padN at_)).length := by
  unfold lookP
  rw [if_pos h]
theorem All_round (hn : 2 ^ 50 < n) (hm : 0 < m) (ht : Sl .u32 w0 A 256 tab) (hb : Bv .u8 w0 B l d zs) (hl : l ≤ 2 ^ 36) (ha : at_ ≤ l) (hp : w0.heap.size ≤ p) (hk : Kp w0 w) (hs : RS w p A c B l d at_ acc now wi tk) (hnow : now.length ≤ at_) (hrs : acc.length ≤ at_)
    (hstop : ∀ c', lookP sm at_ (zs.drop at_) wi = .stop c' → ∀ R rc w', Ev byEl w' R acc.length rc acc → Kp w0 w' → Q ⟨.ret, [.slice R acc.length rc, .int .i64 (tk : Int), .int .i64 c'], w'⟩)
    (hgo : ∀ u x mm w', lookP sm at_ (zs.drop at_) wi = .go u x mm → Kp w0 w' → RS w' p A c B l d (at_ + u) (after at_ acc now x u mm tk).1 (after at_ acc now x u mm tk).2.1 mm (after at_ acc now x u mm tk).2.2 → Rt (frame_All.g0 n m B l d ⟨p, 0, none⟩ 0 w') Q) :
    Rt (frame_All.g0 n (m + 1) B l d ⟨p, 0, none⟩ 0 w) Q := by
  have hzl := hb.len
  obtain ⟨R, rc, N, nc, hX⟩ := hs
  have h1 := hX.lc
  have hpl := h1.lt
  rw [frame_All.g0_succ]
  (repeat' (first|(with_reducible (first|apply Rt.fin|apply Rt.tL|apply Rt.tI|apply Rt.tB|apply Rt.tS|apply Rt.tP|apply Rt.tD|apply Rt.tM|apply Rt.tC|apply Rt.tN|apply Rt.tA|apply Rt.tG|apply Rt.tF|apply Rt.os|apply Rt.clS|apply Rt.jmN|apply Rt.jbN|apply Rt.jbE|apply Rt.ckR|exact Rt.some' rfl))|((with_reducible (first|apply Rt.ld0|apply Rt.ld1|apply Rt.ld2|apply Rt.ld3|apply Rt.ld4|apply Rt.ld5)); first|assumption|exact Lc.kp (by assumption) (by assumption))|((with_reducible apply Rt.ol); first|assumption|exact cell_kp (by assumption) (by assumption))|fail))
  refine Rt.call (noughts_spec (w := w) hn (hb.kp hk) (by omega) ha) ?_
  rintro vs w2 ⟨b, w2', hr, k2, hb2⟩
  cases hr
  (repeat' (first|(with_reducible (first|apply Rt.fin|apply Rt.tL|apply Rt.tI|apply Rt.tB|apply Rt.tS|apply Rt.tP|apply Rt.tD|apply Rt.tM|apply Rt.tC|apply Rt.tN|apply Rt.tA|apply Rt.tG|apply Rt.tF|apply Rt.os|apply Rt.clS|apply Rt.jmN|apply Rt.jbN|apply Rt.jbE|apply Rt.ckR|exact Rt.some' rfl))|((with_reducible (first|apply Rt.ld0|apply Rt.ld1|apply Rt.ld2|apply Rt.ld3|apply Rt.ld4|apply Rt.ld5)); first|assumption|exact Lc.kp (by assumption) (by assumption))|((with_reducible apply Rt.ol); first|assumption|exact cell_kp (by assumption) (by assumption))|fail))
  have X2 := hX.kp k2
  have h2 := X2.lc
  have hpN := padN_le at_
  have hpl2 : ((zs.drop at_).take (padN at_)).length = min (padN at_) (l - at_) := by rw [List.length_take, List.length_drop, hzl]
  generalize hpq : ((zs.drop at_).take (padN at_)).length = pl at *
  (repeat' (first|(with_reducible (first|apply Rt.fin|apply Rt.tL|apply Rt.tI|apply Rt.tB|apply Rt.tS|apply Rt.tP|apply Rt.tD|apply Rt.tM|apply Rt.tC|apply Rt.tN|apply Rt.tA|apply Rt.tG|apply Rt.tF|apply Rt.os|apply Rt.clS|apply Rt.jmN|apply Rt.jbN|apply Rt.jbE|apply Rt.ckR|exact Rt.some' rfl))|((with_reducible (first|apply Rt.ld0|apply Rt.ld1|apply Rt.ld2|apply Rt.ld3|apply Rt.ld4|apply Rt.ld5)); first|assumption|exact Lc.kp (by assumption) (by assumption))|((with_reducible apply Rt.ol); first|assumption|exact cell_kp (by assumption) (by assumption))|fail))
  rw [i64_in _ (by omega), show (at_ : Int) + (pl : Int) = ((at_ + pl : Nat) : Int) by omega]
  refine Rt.stn (j := 2) h2 (by simp) fun w3 m3 g3 => ?_
  have X3 : RX w3 p A c B l d (at_ + pl) R rc acc N nc now wi tk := X2.put g3 m3
  have m3 := X3.lc
  have k3 : Kp w0 w3 := (hk.tr k2).tx g3 fun j hj => by subst hj; exact hp
  cases b with
  | false =>
    refine Rt.cT rfl (All_g1 ⟨_, _, _, _, X3⟩ hm fun R rc hev => hstop 2 ?_ R rc _ hev k3.dr)
    unfold lookP
    rw [if_neg (fun h => by simpa using hb2.2 h)]
  | true =>
    have hz := hb2.1 rfl
    have hlp := lookP_split (at_ := at_) (s := zs.drop at_) (wi := wi) hz
    rw [hpq, List.drop_drop] at hlp
    refine Rt.cF rfl ?_
    (repeat' (first|(with_reducible (first|apply Rt.fin|apply Rt.tL|apply Rt.tI|apply Rt.tB|apply Rt.tS|apply Rt.tP|apply Rt.tD|apply Rt.tM|apply Rt.tC|apply Rt.tN|apply Rt.tA|apply Rt.tG|apply Rt.tF|apply Rt.os|apply Rt.clS|apply Rt.jmN|apply Rt.jbN|apply Rt.jbE|apply Rt.ckR|exact Rt.some' rfl))|((with_reducible (first|apply Rt.ld0|apply Rt.ld1|apply Rt.ld2|apply Rt.ld3|apply Rt.ld4|apply Rt.ld5)); first|assumption|exact Lc.kp (by assumption) (by assumption))|((with_reducible apply Rt.ol); first|assumption|exact cell_kp (by assumption) (by assumption))|fail))
    refine Rt.cQ (fun he => ?_) fun he => ?_
    · have hnil : zs.drop (at_ + padN at_) = [] := List.drop_of_length_le (by omega)
      have hlp : lookP sm at_ (zs.drop at_) wi = .stop (if wi = true then 1 else 0) := by
        rw [hlp, hnil]
        unfold lookS
        rw [if_pos rfl]; rfl
      (repeat' (first|(with_reducible (first|apply Rt.fin|apply Rt.tL|apply Rt.tI|apply Rt.tB|apply Rt.tS|apply Rt.tP|apply Rt.tD|apply Rt.tM|apply Rt.tC|apply Rt.tN|apply Rt.tA|apply Rt.tG|apply Rt.tF|apply Rt.os|apply Rt.clS|apply Rt.jmN|apply Rt.jbN|apply Rt.jbE|apply Rt.ckR|exact Rt.some' rfl))|((with_reducible (first|apply Rt.ld0|apply Rt.ld1|apply Rt.ld2|apply Rt.ld3|apply Rt.ld4|apply Rt.ld5)); first|assumption|exact Lc.kp (by assumption) (by assumption))|((with_reducible apply Rt.ol); first|assumption|exact cell_kp (by assumption) (by assumption))|fail))
      cases wi with
      | true => exact Rt.cT rfl (All_g1 ⟨_, _, _, _, X3⟩ hm fun R rc hev => hstop 1 hlp R rc _ hev k3.dr)
      | false => exact Rt.cF rfl (All_g1 ⟨_, _, _, _, X3⟩ hm fun R rc hev => hstop 0 hlp R rc _ hev k3.dr)
    · have hpl3 : pl = padN at_ := by omega
      have ht3 := take_spec (w := w3) hn ht hb hl (at_ := at_ + pl) (by omega) (by rw [hpl3]; exact padN_mod at_) hp k3 ⟨_, _, _, _, X3⟩ (by omega) (by omega)
      refine Rt.call ht3 ?_
      rintro vs w4 ⟨w4', k4, ⟨c', h5, h6, hr, hs4⟩ | ⟨u, x, mm, h5, hr, hs4⟩⟩
      · cases hr
        rw [hpl3] at h5
        rw [hpl3, h5] at hlp
        (repeat' (first|(with_reducible (first|apply Rt.fin|apply Rt.tL|apply Rt.tI|apply Rt.tB|apply Rt.tS|apply Rt.tP|apply Rt.tD|apply Rt.tM|apply Rt.tC|apply Rt.tN|apply Rt.tA|apply Rt.tG|apply Rt.tF|apply Rt.os|apply Rt.clS|apply Rt.jmN|apply Rt.jbN|apply Rt.jbE|apply Rt.ckR|exact Rt.some' rfl))|((with_reducible (first|apply Rt.ld0|apply Rt.ld1|apply Rt.ld2|apply Rt.ld3|apply Rt.ld4|apply Rt.ld5)); first|assumption|exact Lc.kp (by assumption) (by assumption))|((with_reducible apply Rt.ol); first|assumption|exact cell_kp (by assumption) (by assumption))|fail))
        refine Rt.cQ (fun h => absurd h h6) fun _ => ?_
        obtain ⟨R4, rc4, N4, nc4, X4⟩ := hs4.kp (Kp.rfl' w4).dr
        have m4 := X4.lc
        exact Rt.ldn (j := 3) m4 rfl (Rt.tL (Rt.ldn (j := 6) m4 rfl (Rt.tI (Rt.some' (hstop c' hlp R4 rc4 _ (OwnX_ev X4.ro) k4.dr)))))
      · cases hr
        rw [hpl3] at h5
        rw [hpl3, h5] at hlp
        (repeat' (first|(with_reducible (first|apply Rt.fin|apply Rt.tL|apply Rt.tI|apply Rt.tB|apply Rt.tS|apply Rt.tP|apply Rt.tD|apply Rt.tM|apply Rt.tC|apply Rt.tN|apply Rt.tA|apply Rt.tG|apply Rt.tF|apply Rt.os|apply Rt.clS|apply Rt.jmN|apply Rt.jbN|apply Rt.jbE|apply Rt.ckR|exact Rt.some' rfl))|((with_reducible (first|apply Rt.ld0|apply Rt.ld1|apply Rt.ld2|apply Rt.ld3|apply Rt.ld4|apply Rt.ld5)); first|assumption|exact Lc.kp (by assumption) (by assumption))|((with_reducible apply Rt.ol); first|assumption|exact cell_kp (by assumption) (by assumption))|fail))
        refine Rt.cQ (fun _ => ?_) fun h => absurd rfl h
        have e : after (at_ + pl) acc now x u mm tk = after at_ acc now x (padN at_ + u) mm tk := by
          unfold after
          rw [hpl3, Nat.add_assoc]
        rw [e, hpl3, Nat.add_assoc] at hs4
        exact hgo _ _ _ _ hlp k4 hs4
theorem All_g0 (hn : 2 ^ 50 < n) (ht : Sl .u32 w0 A 256 tab) (hb : Bv .u8 w0 B l d zs) (hl : l ≤ 2 ^ 36) (hp : w0.heap.size ≤ p) {d' : Nat} {cl : Int} (h : Rd sm at_ s wi now tk rs d' cl) : s = zs.drop at_ → at_ ≤ l → ∀ (m : Nat) (w : World) (acc : List (List Int)), s.length + 2 ≤ m → Kp w0 w → RS w p A c B l d at_ acc now wi tk → now.length ≤ at_ → acc.length ≤ at_ →
    Rt (frame_All.g0 n m B l d ⟨p, 0, none⟩ 0 w) fun r => r.ex = .ret ∧ ∃ R rc, r.vals = [.slice R (acc ++ rs).length rc, .int .i64 (d' : Int), .int .i64 cl] ∧ Ev byEl r.w R (acc ++ rs).length rc (acc ++ rs) ∧ Kp w0 r.w := by
  induction h with
  | stop h =>
    intro hs ha m w acc hm hk hR h1 h2
    obtain ⟨m, rfl⟩ : ∃ m', m = m' + 1 := ⟨m - 1, by omega⟩
    subst hs
    refine All_round hn (by omega) ht hb hl ha hp hk hR h1 h2 (fun c' hc R rc w' hev k' => ?_) fun u x mm w' hg => ?_
    · have hcc := Stp.stop.inj (h.symm.trans hc)
      rw [← hcc]
      have e : acc ++ [] = acc := List.append_nil acc
      exact ⟨rfl, R, rc, by rw [e], by rw [e]; exact hev, k'⟩
    · have hg := h.symm.trans hg
      cases hg
  | more h t ih =>
    intro hs ha m w acc hm hk hR h1 h2
    obtain ⟨m, rfl⟩ : ∃ m', m = m' + 1 := ⟨m - 1, by omega⟩
    subst hs
    have hgo := lookP_go h
    rw [List.length_drop] at hm hgo
    have hzl := hb.len
    refine All_round hn (by omega) ht hb hl ha hp hk hR h1 h2 (fun c' hc => ?_) fun u x mm w' hg k' hR' => ?_
    · have hc := h.symm.trans hc
      cases hc
    · have hg := h.symm.trans hg
      injection hg with e1 e2 e3
      subst e1 e2 e3
      exact ih (by rw [List.drop_drop]) (by omega) m w' acc (by rw [List.length_drop, List.length_drop]; omega) k' hR' (by rw [List.length_append]; omega) (by omega)
  | last h t ih =>
    intro hs ha m w acc hm hk hR h1 h2
    obtain ⟨m, rfl⟩ : ∃ m', m = m' + 1 := ⟨m - 1, by omega⟩
    subst hs
    have hgo := lookP_go h
    rw [List.length_drop] at hm hgo
    have hzl := hb.len
    refine All_round hn (by omega) ht hb hl ha hp hk hR h1 h2 (fun c' hc => ?_) fun u x mm w' hg k' hR' => ?_
    · have hc := h.symm.trans hc
      cases hc
    · have hg := h.symm.trans hg
      injection hg with e1 e2 e3
      subst e1 e2 e3
      have := ih (by rw [List.drop_drop]) (by omega) m w' (acc ++ [_]) (by rw [List.length_drop, List.length_drop]; omega) k' hR' (by simp) (by rw [List.length_append, List.length_singleton]; omega)
      rw [List.append_assoc] at this
      exact this
def RAll (w0 : World) (rs : List (List Int)) (d' : Nat) (cl : Int) : List Value × World → Prop := fun r => ∃ R rc w', r = ([.slice R rs.length rc, .int .i64 (d' : Int), .int .i64 cl], w') ∧ Ev byEl w' R rs.length rc rs ∧ Kp w0 w'
theorem All_spec (hn : 2 ^ 50 < n) (hb : Bv .u8 w B l d zs) (hl : l ≤ 2 ^ 36) {d' : Nat} {cl : Int} (h : Rd sm 0 zs false [] 0 rs d' cl) : Rt (frame_All n [.slice B l d] w) (RAll w rs d' cl) := by
  have hzl := hb.len
  rw [frame_All_eq]
  refine Rt.fin (Rt.jmX (Rt.call (Table_rt hn) fun vs w1 hT => ?_))
  obtain ⟨A, c, w1', e, ot, k1⟩ := hT
  injection e with e e'
  subst e e'
  (repeat' (first|(with_reducible (first|apply Rt.fin|apply Rt.tL|apply Rt.tI|apply Rt.tB|apply Rt.tS|apply Rt.tP|apply Rt.tD|apply Rt.tM|apply Rt.tC|apply Rt.tN|apply Rt.tA|apply Rt.tG|apply Rt.tF|apply Rt.os|apply Rt.clS|apply Rt.jmN|apply Rt.jbN|apply Rt.jbE|apply Rt.ckR|exact Rt.some' rfl))|((with_reducible (first|apply Rt.ld0|apply Rt.ld1|apply Rt.ld2|apply Rt.ld3|apply Rt.ld4|apply Rt.ld5)); first|assumption|exact Lc.kp (by assumption) (by assumption))|((with_reducible apply Rt.ol); first|assumption|exact cell_kp (by assumption) (by assumption))|fail))
  refine Rt.al fun w2 l2 k2 s2 => ?_
  have hx : RS w2 w1.heap.size A c B l d 0 [] [] false 0 := ⟨none, 0, none, 0, l2, OwnX.nil _ _ _, Own.nil _ _, (fun z hz => by cases hz), fun j hj => by cases hj⟩
  have key := All_g0 (n := n) (c := c) hn ot.sl.2 (hb.kp k1) hl (Nat.le_refl _) h (by simp) (by omega) (n + 1) w2 [] (by omega) k2 hx (by simp) (by simp)
  refine Rt.of_eq (frame_All.g0_succ n n B l d ⟨w1.heap.size, 0, none⟩ 0 w2) (Rt.mono key ?_)
  rintro ⟨ex, vs, w3⟩ ⟨h1, R, rc, h2, h3, h4⟩
  dsimp only at h1 h2 h3 h4
  subst h1 h2
  rw [List.nil_append] at h3 ⊢
  exact .inr ⟨(fun h => by cases h), rfl, R, rc, w3, rfl, h3, k1.tr h4⟩
end
end Go.Proofs.YtdcdgmiojlldaaaDoor.Fr
/- Frames: the whole of a log is read by the reference. -/
namespace Go.Proofs.YtdcdgmiojlldaaaDoor.Fr
open Go Big Go.RowKit Go.IntWalk Crc
set_option linter.unusedVariables false
set_option linter.unusedSimpArgs false
section
variable {α : Type} {Q : Res → Prop} {n m : Nat} {w w' w0 w1 : World} {A B C : Option Addr} {l c d base lo co at_ p tk : Nat} {k : Int} {x r out o zs s now : List Int} {rs acc : List (List Int)} {wi : Bool}
theorem zeros_l0 (hb : Bv .u8 w A l c zs) (hl : l ≤ 2 ^ 38) : ∀ (q i j : Nat), i + q = l → q < j →
    Rt (butteryref6_zeros.l0 n j A l c (i : Int) w) fun r => r.w = w ∧ (r.ex = .exit 0 ∧ r.vals = [] ∧ (∀ z ∈ zs.drop i, z = 0) ∨ r.ex = .ret ∧ r.vals = [.bool false] ∧ ¬ ∀ z ∈ zs.drop i, z = 0) := by
  have hzl := hb.len
  intro q
  induction q with
  | zero =>
    intro i j hi hj
    obtain ⟨j, rfl⟩ : ∃ j', j = j' + 1 := ⟨j - 1, by omega⟩
    rw [butteryref6_zeros.l0_succ]
    exact Rt.cDF (by omega) (Rt.some' ⟨rfl, .inl ⟨rfl, rfl, by rw [List.drop_of_length_le (by omega)]; simp⟩⟩)
  | succ q ih =>
    intro i j hi hj
    obtain ⟨j, rfl⟩ : ∃ j', j = j' + 1 := ⟨j - 1, by omega⟩
    rw [butteryref6_zeros.l0_succ]
    have hd : zs.drop i = zs.getD i 0 :: zs.drop (i + 1) := by
      rw [List.drop_eq_getElem_cons (by omega), List.getD_eq_getElem?_getD, List.getElem?_eq_getElem (by omega)]; rfl
    refine Rt.cDT (by omega) (Rt.ix hb.sl (by omega) (by omega) ?_)
    rw [Int.toNat_natCast]
    refine Rt.cN (fun h => ?_) fun h => ?_
    · rw [i64_in _ (by omega), show ((i : Int) + 1) = ((i + 1 : Nat) : Int) by omega]
      refine Rt.mono (ih (i + 1) j (by omega) (by omega)) ?_
      rintro r ⟨h1, ⟨h2, h3, h4⟩ | ⟨h2, h3, h4⟩⟩
      · exact ⟨h1, .inl ⟨h2, h3, by rw [hd, List.forall_mem_cons]; exact ⟨h, h4⟩⟩⟩
      · exact ⟨h1, .inr ⟨h2, h3, by rw [hd, List.forall_mem_cons]; exact fun hh => h4 hh.2⟩⟩
    · exact Rt.some' ⟨rfl, .inr ⟨rfl, rfl, by rw [hd, List.forall_mem_cons]; exact fun hh => h hh.1⟩⟩
theorem zeros_spec (hn : 2 ^ 50 < n) (hb : Bv .u8 w A l c zs) (hl : l ≤ 2 ^ 38) : Rt (butteryref6_zeros n [.slice A l c] w) (RB (∀ z ∈ zs, z = 0) w) := by
  rw [butteryref6_zeros_eq]
  have := zeros_l0 (n := n) hb hl l 0 n (by omega) (by omega)
  rw [List.drop_zero] at this
  refine Rt.fin (Rt.jb (Rt.mono this ?_))
  rintro ⟨ex, vs, w1⟩ ⟨h1, ⟨h2, h3, h4⟩ | ⟨h2, h3, h4⟩⟩
  · dsimp only at h1 h2 h3; subst h1 h2 h3
    refine .inl ⟨.inr rfl, ?_⟩
    (repeat' (first|(with_reducible (first|apply Rt.fin|apply Rt.tL|apply Rt.tI|apply Rt.tB|apply Rt.tS|apply Rt.tP|apply Rt.tD|apply Rt.tM|apply Rt.tC|apply Rt.tN|apply Rt.tA|apply Rt.tG|apply Rt.tF|apply Rt.os|apply Rt.clS|apply Rt.jmN|apply Rt.jbN|apply Rt.jbE|apply Rt.ckR|exact Rt.some' rfl))|((with_reducible (first|apply Rt.ld0|apply Rt.ld1|apply Rt.ld2|apply Rt.ld3|apply Rt.ld4|apply Rt.ld5)); first|assumption|exact Lc.kp (by assumption) (by assumption))|((with_reducible apply Rt.ol); first|assumption|exact cell_kp (by assumption) (by assumption))|fail))
    exact Rt.endB (by simpa using h4) (Kp.rfl' _)
  · dsimp only at h1 h2 h3; subst h1 h2 h3
    exact .inr ⟨rfl, rfl, false, _, rfl, by simpa using h4, Kp.rfl' _⟩
structure RR (w : World) (base : Nat) (R : Option Addr) (rc : Nat) (rs : List (List Int)) (N : Option Addr) (nc : Nat) (now : List Int) : Prop where
  ro : OwnX (On (.slice N now.length nc)) byEl 28 w base (.slice R rs.length rc) rs
  re : Own .u8 5 w base (.slice N now.length nc) now
  by_ : Bytes now
  ne : ∀ j, On (.slice N now.length nc) j → ¬ On (.slice R rs.length rc) j
theorem RR.kp {R N : Option Addr} {rc nc : Nat} (h : RR w base R rc rs N nc now) (hk : Kp w w') : RR w' base R rc rs N nc now :=
  ⟨h.ro.kp hk, h.re.kp hk, h.by_, h.ne⟩
theorem head7 {a b c d e f g : Int} (ra : Bytes [a, b, c, d]) (re : Bytes [e, f]) {x : List Int} (hx : (x.length : Int) = le [e, f]) : [a, b, c, d, e, f, g] = (pc sm g x).take 7 ↔ le [a, b, c, d] = sm (g :: x) := by
  obtain ⟨b0, b1, b2, b3, b4, b5, e1, e2, e3⟩ := pc_cons (sm := sm) g x
  have h2 : [e, f] = [b4, b5] := by
    rw [← e2, hx]
    exact (lowB_le (xs := [e, f]) re).symm
  injection h2 with h2 h3
  injection h3 with h3
  rw [e3]
  show [a, b, c, d, e, f, g] = [b0, b1, b2, b3, b4, b5, g] ↔ _
  constructor
  · intro h
    simp only [List.cons.injEq] at h
    obtain ⟨rfl, rfl, rfl, rfl, _⟩ := h
    rw [← e1, le_lowB 4 (hsm _).1 (hsm _).2]
  · intro h
    have : [a, b, c, d] = [b0, b1, b2, b3] := by
      rw [← e1, ← h]
      exact (lowB_le (xs := [a, b, c, d]) ra).symm
    simp only [List.cons.injEq, and_true] at this
    obtain ⟨rfl, rfl, rfl, rfl⟩ := this
    rw [h2, h3]
theorem RAll_tail {w2 : World} {R N E : Option Addr} {rc nc le_ de u : Nat} {g : Int} {bd : List Int} (hk2 : Kp w0 w2) (hs2 : RR w2 w0.heap.size R rc acc N nc now) (bE : Bv .u8 w0 E le_ de bd) (hl1 : now.length + le_ ≤ 2 ^ 36) (hl2 : acc.length ≤ 2 ^ 35) (hl3 : (1 : Nat) = 1)
    (hgo : ∀ w' R' rc' N' nc', Kp w0 w' → RR w' w0.heap.size R' rc' (after at_ acc now bd u (decide (g = 2 ∨ g = 3)) tk).1 N' nc' (after at_ acc now bd u (decide (g = 2 ∨ g = 3)) tk).2.1 →
      Rt (butteryref6_All.l0 n m B l d R' (after at_ acc now bd u (decide (g = 2 ∨ g = 3)) tk).1.length rc' N' (after at_ acc now bd u (decide (g = 2 ∨ g = 3)) tk).2.1.length nc' (decide (g = 2 ∨ g = 3)) ((at_ + u : Nat) : Int) ((after at_ acc now bd u (decide (g = 2 ∨ g = 3)) tk).2.2 : Int) w') Q) :
    Rt (rn Tryd.prog (Builtin.append_ #[28, 28] 28 #[.slice N now.length nc, .slice E le_ de]) w2 fun v102 w103 => tL v102 fun A99 l100 c101 => jm (cond (g == 2) (some ⟨.norm, [.slice B l d, .slice R acc.length rc, .slice A99 l100 c101, .bool true, .int .i64 ((at_ + u : Nat) : Int), .int .i64 (tk : Int)], w103⟩) (some ⟨.norm, [.slice B l d, .slice R acc.length rc, .slice A99 l100 c101, .bool (g == 3), .int .i64 ((at_ + u : Nat) : Int), .int .i64 (tk : Int)], w103⟩)) fun vs104 w105 => tC vs104 fun v106 cs107 => tL v106 fun A108 l109 c110 => tC cs107 fun v111 cs112 => tL v111 fun A113 l114 c115 => tC cs112 fun v116 cs117 => tL v116 fun A118 l119 c120 => tC cs117 fun v121 cs122 => tB v121 fun b123 => tC cs122 fun v124 cs125 => tI .i64 v124 fun n126 => tC cs125 fun v127 cs128 => tI .i64 v127 fun n129 => tN cs128 (cond (!b123) (rn Tryd.prog (Builtin.append_ #[28, 28] 28 #[.slice none 0 0, .slice A118 l119 c120]) w105 fun v133 w134 => tL v133 fun A130 l131 c132 => al w134 #[.slice A130 l131 c132] 28 fun w135 => rn Tryd.prog (Builtin.append_ #[70, 70] 70 #[.slice A113 l114 c115, .slice (some ⟨w134.heap.size, 0, none⟩) 1 1]) w135 fun v139 w140 => tL v139 fun A136 l137 c138 => butteryref6_All.l0 n m A108 l109 c110 A136 l137 c138 none 0 0 b123 n126 n126 w140) (butteryref6_All.l0 n m A108 l109 c110 A113 l114 c115 A118 l119 c120 b123 n126 n129 w105))) Q := by
  obtain ⟨ib, hTb⟩ := slB
  obtain ⟨iL, zL, hTL⟩ := slL
  have hsz : w0.heap.size ≤ w2.heap.size := hk2.size
  refine Rt.appO hTb hs2.re (bE.kp hk2).sl bE.nil (by omega) hsz fun N2 nc2 w3 o3 hN2 g3 => ?_
  (repeat' (first|(with_reducible (first|apply Rt.fin|apply Rt.tL|apply Rt.tI|apply Rt.tB|apply Rt.tS|apply Rt.tP|apply Rt.tD|apply Rt.tM|apply Rt.tC|apply Rt.tN|apply Rt.tA|apply Rt.tG|apply Rt.tF|apply Rt.os|apply Rt.clS|apply Rt.jmN|apply Rt.jbN|apply Rt.jbE|apply Rt.ckR|exact Rt.some' rfl))|((with_reducible (first|apply Rt.ld0|apply Rt.ld1|apply Rt.ld2|apply Rt.ld3|apply Rt.ld4|apply Rt.ld5)); first|assumption|exact Lc.kp (by assumption) (by assumption))|((with_reducible apply Rt.ol); first|assumption|exact cell_kp (by assumption) (by assumption))|fail))
  have hlt := o3.sl.1
  rw [hlt] at o3 hN2 ⊢
  have g3' : Gx (On (.slice N now.length nc)) w2 w3 := g3
  have k3 : Kp w0 w3 := hk2.tx g3 fun j hj => (hs2.re.lt j hj).1
  have ro3 := ((OwnX_less' hs2.ro (S' := fun j => On (.slice N2 (now ++ bd).length nc2) j ∨ On (.slice N now.length nc) j) (fun j hj hS => by
    rcases hS with hS | hS
    · rcases hN2 j hS with h | h
      · exact .inl h
      · omega
    · exact .inl hS)).gx g3 (fun j _ hj => .inr hj) hs2.ne).less (S' := On (.slice N2 (now ++ bd).length nc2)) fun j hj => .inl hj
  have ne3 : ∀ j, On (.slice N2 (now ++ bd).length nc2) j → ¬ On (.slice R acc.length rc) j := fun j hj hr => by
    rcases hN2 j hj with h | h
    · exact hs2.ne j h hr
    · have := (hs2.ro.lt j hr).2; omega
  have by3 : Bytes (now ++ bd) := fun z hz => by
    rcases List.mem_append.1 hz with h | h
    · exact hs2.by_ z h
    · exact bE.rng z h
  have hlx : (now ++ bd).length ≤ 2 ^ 36 := by have := bE.len; rw [List.length_append]; omega
  refine Rt.jm (Rt.mono (Q' := fun r => r = ⟨.norm, [.slice B l d, .slice R acc.length rc, .slice N2 (now ++ bd).length nc2, .bool (decide (g = 2 ∨ g = 3)), .int .i64 ((at_ + u : Nat) : Int), .int .i64 (tk : Int)], w3⟩) ?_ ?_)
  · refine Rt.cQ (fun h => Rt.some' ?_) fun h => Rt.some' ?_
    · rw [decide_eq_true (.inl h)]
    · have : decide (g = 2 ∨ g = 3) = (g == 3) := by rw [Bool.eq_iff_iff]; simp [h]
      rw [this]
  rintro _ rfl
  refine ⟨rfl, ?_⟩
  dsimp only
  (repeat' (first|(with_reducible (first|apply Rt.fin|apply Rt.tL|apply Rt.tI|apply Rt.tB|apply Rt.tS|apply Rt.tP|apply Rt.tD|apply Rt.tM|apply Rt.tC|apply Rt.tN|apply Rt.tA|apply Rt.tG|apply Rt.tF|apply Rt.os|apply Rt.clS|apply Rt.jmN|apply Rt.jbN|apply Rt.jbE|apply Rt.ckR|exact Rt.some' rfl))|((with_reducible (first|apply Rt.ld0|apply Rt.ld1|apply Rt.ld2|apply Rt.ld3|apply Rt.ld4|apply Rt.ld5)); first|assumption|exact Lc.kp (by assumption) (by assumption))|((with_reducible apply Rt.ol); first|assumption|exact cell_kp (by assumption) (by assumption))|fail))
  generalize decide (g = 2 ∨ g = 3) = mm at hgo ⊢
  cases mm with
  | true => exact Rt.cF rfl (hgo w3 R rc N2 nc2 k3 ⟨ro3, o3, by3, ne3⟩)
  | false =>
    refine Rt.cT rfl ?_
    refine Rt.app0 hTb o3.sl.2 (o3.bv by3).nil (by omega) fun D4 e4 w4 o4 k4 => ?_
    (repeat' (first|(with_reducible (first|apply Rt.fin|apply Rt.tL|apply Rt.tI|apply Rt.tB|apply Rt.tS|apply Rt.tP|apply Rt.tD|apply Rt.tM|apply Rt.tC|apply Rt.tN|apply Rt.tA|apply Rt.tG|apply Rt.tF|apply Rt.os|apply Rt.clS|apply Rt.jmN|apply Rt.jbN|apply Rt.jbE|apply Rt.ckR|exact Rt.some' rfl))|((with_reducible (first|apply Rt.ld0|apply Rt.ld1|apply Rt.ld2|apply Rt.ld3|apply Rt.ld4|apply Rt.ld5)); first|assumption|exact Lc.kp (by assumption) (by assumption))|((with_reducible apply Rt.ol); first|assumption|exact cell_kp (by assumption) (by assumption))|fail))
    have ro4 := (ro3.kp k4).less (S' := fun _ => False) fun j hj => hj.elim
    have hR4 : ∀ j, On (.slice R acc.length rc) j → j < w3.heap.size := fun j hj => (ro3.lt j hj).2
    refine Rt.app1X (x := now ++ bd) rfl hTL ro4 rfl (fun w5 hg => ⟨D4, _, e4, rfl, (Own_stb o4 by3 fun j hj hS => hS.elim id fun hS => by have := hR4 j hS; have := (o4.lt j hj).1; omega) w5 hg⟩) (by omega) (Nat.le_trans k3.size k4.size) fun R2 rc2 w5 ro5 g5 _ => ?_
    (repeat' (first|(with_reducible (first|apply Rt.fin|apply Rt.tL|apply Rt.tI|apply Rt.tB|apply Rt.tS|apply Rt.tP|apply Rt.tD|apply Rt.tM|apply Rt.tC|apply Rt.tN|apply Rt.tA|apply Rt.tG|apply Rt.tF|apply Rt.os|apply Rt.clS|apply Rt.jmN|apply Rt.jbN|apply Rt.jbE|apply Rt.ckR|exact Rt.some' rfl))|((with_reducible (first|apply Rt.ld0|apply Rt.ld1|apply Rt.ld2|apply Rt.ld3|apply Rt.ld4|apply Rt.ld5)); first|assumption|exact Lc.kp (by assumption) (by assumption))|((with_reducible apply Rt.ol); first|assumption|exact cell_kp (by assumption) (by assumption))|fail))
    have hlr : acc.length + 1 = (acc ++ [now ++ bd]).length := by simp
    rw [hlr] at ro5 ⊢
    have k5 : Kp w0 w5 := (k3.tr k4).tx g5 fun j hj => (ro3.lt j hj).1
    exact hgo w5 R2 rc2 none 0 k5 ⟨ro5.less (fun j hj => by cases hj), Own.nil _ _, (fun z hz => by cases hz), fun j hj => by cases hj⟩
set_option maxHeartbeats 1000000 in
theorem RAll_round (hn : 2 ^ 50 < n) (hb : Bv .u8 w0 B l d zs) (hl : l ≤ 2 ^ 34) (ha : at_ ≤ l) (hk : Kp w0 w) {R N : Option Addr} {rc nc : Nat} (hs : RR w w0.heap.size R rc acc N nc now) (hnow : now.length ≤ at_) (hrs : acc.length ≤ at_)
    (hstop : ∀ c' w', lookP sm at_ (zs.drop at_) wi = .stop c' → Kp w w' → Q ⟨.ret, [.slice R acc.length rc, .int .i64 (tk : Int), .int .i64 c'], w'⟩)
    (hgo : ∀ u x mm w' R' rc' N' nc', lookP sm at_ (zs.drop at_) wi = .go u x mm → Kp w0 w' → RR w' w0.heap.size R' rc' (after at_ acc now x u mm tk).1 N' nc' (after at_ acc now x u mm tk).2.1 →
      Rt (butteryref6_All.l0 n m B l d R' (after at_ acc now x u mm tk).1.length rc' N' (after at_ acc now x u mm tk).2.1.length nc' mm ((at_ + u : Nat) : Int) ((after at_ acc now x u mm tk).2.2 : Int) w') Q) :
    Rt (butteryref6_All.l0 n (m + 1) B l d R acc.length rc N now.length nc wi (at_ : Int) (tk : Int) w) Q := by
  have hzl := hb.len
  obtain ⟨ib, hTb⟩ := slB
  obtain ⟨iL, zL, hTL⟩ := slL
  have e0 : Int.tmod (at_ : Int) 128 = ((at_ % 128 : Nat) : Int) := by
    rw [Int.tmod_eq_emod_of_nonneg (by omega)]; omega
  have e1 : IntKind.i64.wrap (128 - ((at_ % 128 : Nat) : Int)) = ((128 - at_ % 128 : Nat) : Int) := by rw [i64_in _ (by omega)]; omega
  have e2 : IntKind.i64.wrap ((l : Int) - (at_ : Int)) = ((l - at_ : Nat) : Int) := by rw [i64_in _ (by omega)]; omega
  rw [butteryref6_All.l0_succ, e0, e1, e2]
  have hpN := padN_le at_
  have hpl2 : ((zs.drop at_).take (padN at_)).length = min (padN at_) (l - at_) := by rw [List.length_take, List.length_drop, hzl]
  refine Rt.jmX (Rt.mono (Q' := fun r => (¬ ∀ z ∈ (zs.drop at_).take (padN at_), z = 0) ∧ (∃ w1, r = ⟨.ret, [.slice R acc.length rc, .int .i64 (tk : Int), .int .i64 2], w1⟩ ∧ Kp w w1) ∨
      (∀ z ∈ (zs.drop at_).take (padN at_), z = 0) ∧ ∃ (left : Nat) (w1 : World), r = ⟨.norm, [.slice B l d, .slice R acc.length rc, .slice N now.length nc, .bool wi, .int .i64 ((at_ + min (padN at_) (l - at_) : Nat) : Int), .int .i64 (tk : Int), .int .i64 (left : Int), .int .i64 ((l - (at_ + min (padN at_) (l - at_)) : Nat) : Int)], w1⟩ ∧ Kp w w1 ∧
        (at_ + min (padN at_) (l - at_) < l → left = 128 - (at_ + min (padN at_) (l - at_)) % 128 ∧ (at_ + min (padN at_) (l - at_)) % 128 ≤ 121)) ?_ ?_)
  · refine Rt.cD (fun h => Rt.cD (fun h' => ?_) fun h' => ?_) fun h => ?_
    · have hp : padN at_ = 128 - at_ % 128 := by unfold padN; rw [if_pos (by omega)]
      have hmin : min (padN at_) (l - at_) = min (l - at_) (128 - at_ % 128) := by rw [hp]; omega
      rw [hmin]
      refine Rt.jm (Rt.mono (Q' := fun r => r = ⟨.norm, [.slice B l d, .slice R acc.length rc, .slice N now.length nc, .bool wi, .int .i64 (at_ : Int), .int .i64 (tk : Int), .int .i64 ((l - at_ : Nat) : Int), .int .i64 ((min (l - at_) (128 - at_ % 128) : Nat) : Int)], w⟩) ?_ ?_)
      · refine Rt.cD (fun h3 => Rt.some' ?_) fun h3 => Rt.some' ?_
        · rw [Nat.min_eq_left (by omega)]
        · rw [Nat.min_eq_right (by omega)]
      · rintro _ rfl
        refine ⟨rfl, ?_⟩
        dsimp only
        (repeat' (first|(with_reducible (first|apply Rt.fin|apply Rt.tL|apply Rt.tI|apply Rt.tB|apply Rt.tS|apply Rt.tP|apply Rt.tD|apply Rt.tM|apply Rt.tC|apply Rt.tN|apply Rt.tA|apply Rt.tG|apply Rt.tF|apply Rt.os|apply Rt.clS|apply Rt.jmN|apply Rt.jbN|apply Rt.jbE|apply Rt.ckR|exact Rt.some' rfl))|((with_reducible (first|apply Rt.ld0|apply Rt.ld1|apply Rt.ld2|apply Rt.ld3|apply Rt.ld4|apply Rt.ld5)); first|assumption|exact Lc.kp (by assumption) (by assumption))|((with_reducible apply Rt.ol); first|assumption|exact cell_kp (by assumption) (by assumption))|fail))
        have e3 : IntKind.i64.wrap ((at_ : Int) + ((min (l - at_) (128 - at_ % 128) : Nat) : Int)) = ((at_ + min (l - at_) (128 - at_ % 128) : Nat) : Int) := by rw [i64_in _ (by omega)]; omega
        have e4 : IntKind.i64.wrap (((l - at_ : Nat) : Int) - ((min (l - at_) (128 - at_ % 128) : Nat) : Int)) = ((l - (at_ + min (l - at_) (128 - at_ % 128)) : Nat) : Int) := by rw [i64_in _ (by omega)]; omega
        rw [e3, e4]
        refine Rt.cut (hb.kp hk) (by omega) (by omega) (by omega) fun D bD => ?_
        have e5 : ((zs.take (((at_ + min (l - at_) (128 - at_ % 128) : Nat) : Int)).toNat).drop (at_ : Int).toNat) = (zs.drop at_).take (padN at_) := by
          rw [Int.toNat_natCast, Int.toNat_natCast, List.drop_take, hp, List.take_eq_take_iff, List.length_drop]; omega
        rw [e5] at bD
        refine Rt.cBo (zeros_spec hn bD (by omega)) fun b w1 hb1 k1 => ?_
        cases b with
        | false => exact Rt.cT rfl (Rt.some' (.inl ⟨fun h => by simpa using hb1.2 h, w1, rfl, k1⟩))
        | true => exact Rt.cF rfl (Rt.some' (.inr ⟨hb1.1 rfl, 128, w1, rfl, k1, by omega⟩))
    · have hmin : min (padN at_) (l - at_) = 0 := by omega
      rw [hmin]
      refine Rt.some' (.inr ⟨fun z hz => ?_, 128 - at_ % 128, w, by rw [Nat.add_zero], Kp.rfl' w, by omega⟩)
      have : (zs.drop at_).take (padN at_) = [] := List.length_eq_zero_iff.1 (by omega)
      rw [this] at hz; cases hz
    · have hp : padN at_ = 0 := padN_zero (by omega)
      rw [hp, Nat.zero_min]
      exact Rt.some' (.inr ⟨by simp, 128 - at_ % 128, w, by rw [Nat.add_zero], Kp.rfl' w, by omega⟩)
  · rintro r (⟨hz, w1, rfl, k1⟩ | ⟨hz, left, w1, rfl, k1, hlf⟩)
    · refine .inr ⟨(fun h => by cases h), hstop 2 w1 ?_ k1⟩
      unfold lookP
      rw [if_neg hz]
    · refine .inl ⟨rfl, ?_⟩
      dsimp only
      (repeat' (first|(with_reducible (first|apply Rt.fin|apply Rt.tL|apply Rt.tI|apply Rt.tB|apply Rt.tS|apply Rt.tP|apply Rt.tD|apply Rt.tM|apply Rt.tC|apply Rt.tN|apply Rt.tA|apply Rt.tG|apply Rt.tF|apply Rt.os|apply Rt.clS|apply Rt.jmN|apply Rt.jbN|apply Rt.jbE|apply Rt.ckR|exact Rt.some' rfl))|((with_reducible (first|apply Rt.ld0|apply Rt.ld1|apply Rt.ld2|apply Rt.ld3|apply Rt.ld4|apply Rt.ld5)); first|assumption|exact Lc.kp (by assumption) (by assumption))|((with_reducible apply Rt.ol); first|assumption|exact cell_kp (by assumption) (by assumption))|fail))
      have hlp := lookP_split (at_ := at_) (s := zs.drop at_) (wi := wi) hz
      rw [hpl2, List.drop_drop] at hlp
      have hdp : zs.drop (at_ + padN at_) = zs.drop (at_ + min (padN at_) (l - at_)) := by
        by_cases h : padN at_ ≤ l - at_
        · rw [Nat.min_eq_left h]
        · rw [List.drop_of_length_le (by omega), List.drop_of_length_le (by omega)]
      rw [hdp] at hlp
      generalize hpq : min (padN at_) (l - at_) = pl at *
      have hs1 := hs.kp k1
      have hk1 := hk.tr k1
      have hsl : (zs.drop (at_ + pl)).length = l - (at_ + pl) := by rw [List.length_drop, hzl]
      refine Rt.cQ (fun h0 => ?_) fun h0 => ?_
      · have hnil : zs.drop (at_ + pl) = [] := List.length_eq_zero_iff.1 (by omega)
        have hlp : lookP sm at_ (zs.drop at_) wi = .stop (if wi = true then 1 else 0) := by
          rw [hlp, hnil]
          unfold lookS
          rw [if_pos rfl]; rfl
        cases wi with
        | true => exact Rt.cT rfl (Rt.some' (hstop 1 w1 hlp k1))
        | false => exact Rt.cF rfl (Rt.some' (hstop 0 w1 hlp k1))
      obtain ⟨hlf1, hm121⟩ := hlf (by omega)
      have hne : zs.drop (at_ + pl) ≠ [] := fun h => by rw [h] at hsl; simp at hsl; omega
      have hlk := lookS_next (a := at_ + pl) (wi := wi) hne
      have stop_ : ∀ c', nextC (at_ + pl) (zs.drop (at_ + pl)) = c' → c' ≠ 0 → lookP sm at_ (zs.drop at_) wi = .stop c' := fun c' h h' => by
        rw [hlp, hlk, if_neg (by rw [h]; exact h'), h]; rfl
      refine Rt.cD (fun h7 => Rt.some' (hstop 1 w1 (stop_ 1 (by rw [nextC, if_pos (by omega)]) (by decide)) k1)) fun h7 => ?_
      obtain ⟨a, b, c', d', e, f, g, t, hsq⟩ := seven (s := zs.drop (at_ + pl)) (by omega)
      have hby : Bytes (zs.drop (at_ + pl)) := fun z hz => hb.rng z (List.mem_of_mem_drop hz)
      have hcnt : cnt (zs.drop (at_ + pl)) = (le [e, f]).toNat := by rw [hsq]; rfl
      have hkd : kindAt (zs.drop (at_ + pl)) = g := by rw [hsq]; rfl
      have h4 : (zs.drop (at_ + pl)).take 4 = [a, b, c', d'] := by rw [hsq]; rfl
      have h7' : (zs.drop (at_ + pl)).take 7 = [a, b, c', d', e, f, g] := by rw [hsq]; rfl
      have g6 : zs.getD ((at_ + pl + 6 : Nat) : Int).toNat 0 = g := by
        rw [Int.toNat_natCast, ← getD_drop, hsq]; rfl
      have hsc : Low.slc zs (at_ + pl + 4) 2 = [e, f] := by
        unfold Low.slc
        rw [← List.drop_drop, hsq]; rfl
      rw [hsq] at hby
      have bab : Bytes [a, b, c', d'] := fun z hz => hby z (by simp at hz ⊢; omega)
      have bef : Bytes [e, f] := fun z hz => hby z (by simp at hz ⊢; omega)
      have bg : Bytes [g] := fun z hz => hby z (by simp at hz ⊢; omega)
      have re := u8wf (bef e (by simp))
      have rf := u8wf (bef f (by simp))
      have rg := u8wf (bg g (by simp))
      have hle : (le [e, f] : Int) = (cnt (zs.drop (at_ + pl)) : Int) := by rw [hcnt]; simp only [le]; omega
      have hcb : cnt (zs.drop (at_ + pl)) < 65536 := by rw [hcnt]; simp only [le]; omega
      have eg : butteryref1_Get n [.slice B l d, .int .i64 ((at_ + pl + 4 : Nat) : Int), .int .i64 2] w1 = some ([.int .u64 (le (Low.slc zs (at_ + pl + 4) 2))], w1) := Low.Get_spec (mm := 2) (hb.kp hk1) (by omega) (by omega) (by omega) (by omega)
      have i4 : IntKind.i64.wrap (((at_ + pl : Nat) : Int) + 4) = ((at_ + pl + 4 : Nat) : Int) := by rw [i64_in _ (by omega)]; omega
      have i6 : IntKind.i64.wrap (((at_ + pl : Nat) : Int) + 6) = ((at_ + pl + 6 : Nat) : Int) := by rw [i64_in _ (by omega)]; omega
      have i7 : IntKind.i64.wrap (((at_ + pl : Nat) : Int) + 7) = ((at_ + pl + 7 : Nat) : Int) := by rw [i64_in _ (by omega)]; omega
      rw [i4, i6, i7, eg, hsc, hle]
      (repeat' (first|(with_reducible (first|apply Rt.fin|apply Rt.tL|apply Rt.tI|apply Rt.tB|apply Rt.tS|apply Rt.tP|apply Rt.tD|apply Rt.tM|apply Rt.tC|apply Rt.tN|apply Rt.tA|apply Rt.tG|apply Rt.tF|apply Rt.os|apply Rt.clS|apply Rt.jmN|apply Rt.jbN|apply Rt.jbE|apply Rt.ckR|exact Rt.some' rfl))|((with_reducible (first|apply Rt.ld0|apply Rt.ld1|apply Rt.ld2|apply Rt.ld3|apply Rt.ld4|apply Rt.ld5)); first|assumption|exact Lc.kp (by assumption) (by assumption))|((with_reducible apply Rt.ol); first|assumption|exact cell_kp (by assumption) (by assumption))|fail))
      have in_ : IntKind.i64.wrap ((cnt (zs.drop (at_ + pl)) : Nat) : Int) = ((cnt (zs.drop (at_ + pl)) : Nat) : Int) := i64_in _ (by omega)
      have i7n : IntKind.i64.wrap (7 + ((cnt (zs.drop (at_ + pl)) : Nat) : Int)) = ((7 + cnt (zs.drop (at_ + pl)) : Nat) : Int) := by rw [i64_in _ (by omega)]; omega
      have iat : IntKind.i64.wrap (((at_ + pl + 7 : Nat) : Int) + ((cnt (zs.drop (at_ + pl)) : Nat) : Int)) = ((at_ + pl + 7 + cnt (zs.drop (at_ + pl)) : Nat) : Int) := by rw [i64_in _ (by omega)]; omega
      rw [in_, i7n, iat]
      refine Rt.ix (hb.kp hk1).sl (by omega) (by omega) ?_
      rw [g6]
      refine Rt.cD (fun h2 => Rt.some' (hstop 2 w1 (stop_ 2 (by rw [nextC, if_neg (by omega), if_pos (by omega)]) (by decide)) k1)) fun h2 => ?_
      refine Rt.cD (fun h3 => Rt.some' (hstop 1 w1 (stop_ 1 (by rw [nextC, if_neg (by omega), if_neg (by omega), if_pos (by omega)]) (by decide)) k1)) fun h3 => ?_
      refine Rt.cut hb (by omega) (by omega) (by omega) fun E bE => ?_
      have e8 : ((zs.take ((at_ + pl + 7 + cnt (zs.drop (at_ + pl)) : Nat) : Int).toNat).drop ((at_ + pl + 7 : Nat) : Int).toNat) = body (zs.drop (at_ + pl)) := by
        rw [body, List.drop_drop, List.drop_take, Int.toNat_natCast, Int.toNat_natCast, show at_ + pl + 7 + cnt (zs.drop (at_ + pl)) - (at_ + pl + 7) = cnt (zs.drop (at_ + pl)) by omega]
      rw [e8] at bE
      refine Rt.cut hb (by omega) (by omega) (by omega) fun F bF => ?_
      have e9 : ((zs.take ((at_ + pl + 7 : Nat) : Int).toNat).drop ((at_ + pl : Nat) : Int).toNat) = [a, b, c', d', e, f, g] := by
        rw [← h7', List.drop_take, Int.toNat_natCast, Int.toNat_natCast, show at_ + pl + 7 - (at_ + pl) = 7 by omega]
      rw [e9] at bF
      have hk1d := hk1.dr
      refine Rt.str (bF.kp hk1d) ?_
      have hxl : (body (zs.drop (at_ + pl))).length = cnt (zs.drop (at_ + pl)) := by rw [body, List.length_take, List.length_drop]; omega
      refine Rt.cO (rpiece_spec (w := w1.drew) hn (k := g) rg (bE.kp hk1d) (by omega)) fun D e' w2 o2 k2 => ?_
      have k2' : Kp w w2 := (k1.dr).tr k2
      have hk2 := hk.tr k2'
      have hbx : Bytes (body (zs.drop (at_ + pl))) := bE.rng
      have hbp : Bytes (pc sm g (body (zs.drop (at_ + pl)))) := pc_bytes rg hbx
      refine Rt.ckR (Rt.str (bF.kp hk2) (Rt.some' rfl)) ?_
      refine Rt.cut (o2.bv hbp) (by omega) (by omega) (by rw [pc_len]; omega) fun G bG => ?_
      rw [show Int.toNat 7 = 7 from rfl, show Int.toNat 0 = 0 from rfl, List.drop_zero, Nat.sub_zero, Nat.sub_zero] at bG
      refine Rt.str bG ?_
      have hiff := head7 (g := g) bab bef (x := body (zs.drop (at_ + pl))) (by rw [hxl, hle])
      have hnc : nextC (at_ + pl) (zs.drop (at_ + pl)) = if (1 ≤ g ∧ g ≤ 4) ∧ le [a, b, c', d'] = sm (g :: body (zs.drop (at_ + pl))) then 0 else 2 := by
        rw [nextC, if_neg (by omega), if_neg (by omega), if_neg (by omega), hkd, h4]
      refine Rt.cSn bF.rng bG.rng (fun heq => ?_) fun hneq => Rt.some' (hstop 2 w2 (stop_ 2 (by rw [hnc, if_neg (fun h => hneq (hiff.2 h.2))]) (by decide)) k2')
      refine Rt.cD (fun h5 => Rt.some' (hstop 2 w2 (stop_ 2 (by rw [hnc, if_neg (by omega)]) (by decide)) k2')) fun h5 => ?_
      refine Rt.cD (fun h6 => Rt.some' (hstop 2 w2 (stop_ 2 (by rw [hnc, if_neg (by omega)]) (by decide)) k2')) fun h6 => ?_
      rw [if_pos ⟨by omega, hiff.1 heq⟩] at hnc
      rw [if_pos hnc, hkd] at hlk
      refine Rt.cB (fun hw => ?_) fun hw => ?_
      · refine Rt.some' (hstop 2 w2 ?_ k2')
        rw [hlp, hlk, if_neg ?_]; rfl
        have hw : wi = decide (g < 3) := by simpa using hw
        rw [hw, decide_eq_true_eq]; omega
      have hwi : wi = true ↔ 3 ≤ g := by
        have hw : ¬ wi = decide (g < 3) := by simpa using hw
        cases wi
        · have : g < 3 := by
            rcases Int.lt_or_le g 3 with h | h
            · exact h
            · exact absurd (decide_eq_false (by omega)).symm hw
          simp; omega
        · have : ¬ g < 3 := fun h => hw (decide_eq_true h).symm
          simp; omega
      rw [if_pos hwi] at hlk
      rw [hlk] at hlp
      have hlp : lookP sm at_ (zs.drop at_) wi = .go (pl + (7 + cnt (zs.drop (at_ + pl)))) (body (zs.drop (at_ + pl))) (decide (g = 2 ∨ g = 3)) := hlp
      rw [show at_ + pl + 7 + cnt (zs.drop (at_ + pl)) = at_ + (pl + (7 + cnt (zs.drop (at_ + pl)))) by omega]
      rw [show at_ + pl + 7 + cnt (zs.drop (at_ + pl)) = at_ + (pl + (7 + cnt (zs.drop (at_ + pl)))) by omega] at bE
      exact RAll_tail (w2 := w2) (g := g) hk2 (hs.kp k2') bE (by omega) (by omega) (by omega) fun w' R' rc' N' nc' => hgo _ _ _ w' R' rc' N' nc' hlp
theorem RAll_l0 (hn : 2 ^ 50 < n) (hb : Bv .u8 w0 B l d zs) (hl : l ≤ 2 ^ 34) {d' : Nat} {cl : Int} (h : Rd sm at_ s wi now tk rs d' cl) : s = zs.drop at_ → at_ ≤ l → ∀ (m : Nat) (w : World) (acc : List (List Int)) (R N : Option Addr) (rc nc : Nat), s.length < m → Kp w0 w → RR w w0.heap.size R rc acc N nc now → now.length ≤ at_ → acc.length ≤ at_ →
    Rt (butteryref6_All.l0 n m B l d R acc.length rc N now.length nc wi (at_ : Int) (tk : Int) w) fun r => r.ex = .ret ∧ ∃ R rc, r.vals = [.slice R (acc ++ rs).length rc, .int .i64 (d' : Int), .int .i64 cl] ∧ Ev byEl r.w R (acc ++ rs).length rc (acc ++ rs) ∧ Kp w0 r.w := by
  induction h with
  | stop h =>
    intro hs ha m w acc R N rc nc hm hk hR h1 h2
    obtain ⟨m, rfl⟩ : ∃ m', m = m' + 1 := ⟨m - 1, by omega⟩
    subst hs
    refine RAll_round hn hb hl ha hk hR h1 h2 (fun c' w' hc k' => ?_) fun u x mm w' R' rc' N' nc' hg => ?_
    · have hcc := Stp.stop.inj (h.symm.trans hc)
      rw [← hcc]
      have e : acc ++ [] = acc := List.append_nil acc
      exact ⟨rfl, R, rc, by rw [e], by rw [e]; exact OwnX_ev (hR.ro.kp k'), hk.tr k'⟩
    · have hg := h.symm.trans hg
      cases hg
  | more h t ih =>
    intro hs ha m w acc R N rc nc hm hk hR h1 h2
    obtain ⟨m, rfl⟩ : ∃ m', m = m' + 1 := ⟨m - 1, by omega⟩
    subst hs
    have hgo := lookP_go h
    rw [List.length_drop] at hm hgo
    have hzl := hb.len
    refine RAll_round hn hb hl ha hk hR h1 h2 (fun c' w' hc => ?_) fun u x mm w' R' rc' N' nc' hg k' hR' => ?_
    · have hc := h.symm.trans hc
      cases hc
    · have hg := h.symm.trans hg
      injection hg with e1 e2 e3
      subst e1 e2 e3
      exact ih (by rw [List.drop_drop]) (by omega) m w' acc R' N' rc' nc' (by rw [List.length_drop, List.length_drop]; omega) k' hR' (by rw [List.length_append]; omega) (by omega)
  | last h t ih =>
    intro hs ha m w acc R N rc nc hm hk hR h1 h2
    obtain ⟨m, rfl⟩ : ∃ m', m = m' + 1 := ⟨m - 1, by omega⟩
    subst hs
    have hgo := lookP_go h
    rw [List.length_drop] at hm hgo
    have hzl := hb.len
    refine RAll_round hn hb hl ha hk hR h1 h2 (fun c' w' hc => ?_) fun u x mm w' R' rc' N' nc' hg k' hR' => ?_
    · have hc := h.symm.trans hc
      cases hc
    · have hg := h.symm.trans hg
      injection hg with e1 e2 e3
      subst e1 e2 e3
      have := ih (by rw [List.drop_drop]) (by omega) m w' (acc ++ [_]) R' N' rc' nc' (by rw [List.length_drop, List.length_drop]; omega) k' hR' (by simp) (by rw [List.length_append, List.length_singleton]; omega)
      rw [List.append_assoc] at this
      exact this
theorem RAll_spec (hn : 2 ^ 50 < n) (hb : Bv .u8 w B l d zs) (hl : l ≤ 2 ^ 34) {d' : Nat} {cl : Int} (h : Rd sm 0 zs false [] 0 rs d' cl) : Rt (butteryref6_All n [.slice B l d] w) (RAll w rs d' cl) := by
  have hzl := hb.len
  rw [butteryref6_All_eq]
  have key := RAll_l0 (n := n) hn hb hl h (by simp) (by omega) n w [] none none 0 0 (by omega) (Kp.rfl' w) ⟨OwnX.nil _ _ _, Own.nil _ _, (fun z hz => by cases hz), fun j hj => by cases hj⟩ (by simp) (by simp)
  refine Rt.fin (Rt.mono key ?_)
  rintro ⟨ex, vs, w3⟩ ⟨h1, R, rc, h2, h3, h4⟩
  dsimp only at h1 h2 h3 h4
  subst h1 h2
  rw [List.nil_append] at h3 ⊢
  exact ⟨rfl, R, rc, w3, rfl, h3, h4⟩
end
end Go.Proofs.YtdcdgmiojlldaaaDoor.Fr
/- Frames: lists are compared; the example of the document; what is put and what is read. -/
namespace Go.Proofs.YtdcdgmiojlldaaaDoor.Fr
open Go Big Go.RowKit Go.IntWalk Crc
set_option linter.unusedVariables false
set_option linter.unusedSimpArgs false
theorem conv : ConvB Tryd.prog 28 := fun a l c w => by kernel_rfl
section
variable {α : Type} {Q : α → Prop} {n m : Nat} {w w' w0 w1 : World} {A B C : Option Addr} {l c d base lo co at_ p tk : Nat} {k : Int} {x r out o zs s now : List Int} {rs acc xs ys : List (List Int)} {wi : Bool}
theorem Rt.ixB (hs : SlE byEl w A l xs) {i : Int} (h0 : 0 ≤ i) (h1 : i < l) {f : Addr → Option α}
    (h : ∀ x a B m d, xs[i.toNat]? = some x → Bv .u8 w B m d x → w.cell? a = some (.slice B m d) → Rt (f a) Q) : Rt (ixA A l i 1 f) Q := by
  refine Rt.ixe hs rfl h0 h1 fun x a us e1 _ e3 e4 => ?_
  obtain ⟨B, m, d, rfl, hv⟩ := e3
  have c0 := e4 0 _ rfl
  rw [Addr.add_zero'] at c0
  exact h x a B m d e1 hv c0
theorem Rt.callAll {x : Option (List Value × World)} {rs : List (List Int)} {d' : Nat} {cl : Int} (h : Rt x (RAll w0 rs d' cl)) {f : Option Addr → Nat → Nat → Int → Int → World → Option α}
    (hf : ∀ R rc w1, Ev byEl w1 R rs.length rc rs → Kp w0 w1 → Rt (f R rs.length rc (d' : Int) cl w1) Q) :
    Rt (Big.cl x fun vs w => tC vs fun v3 cs4 => tL v3 fun A5 l6 c7 => tC cs4 fun v8 cs9 => tI .i64 v8 fun n10 => tC cs9 fun v11 cs12 => tI .i64 v11 fun n13 => tN cs12 (f A5 l6 c7 n10 n13 w)) Q := by
  refine Rt.call h ?_
  rintro vs w1 ⟨R, rc, w1', hr, h1, h2⟩
  cases hr
  (repeat' (first|(with_reducible (first|apply Rt.fin|apply Rt.tL|apply Rt.tI|apply Rt.tB|apply Rt.tS|apply Rt.tP|apply Rt.tD|apply Rt.tM|apply Rt.tC|apply Rt.tN|apply Rt.tA|apply Rt.tG|apply Rt.tF|apply Rt.os|apply Rt.clS|apply Rt.jmN|apply Rt.jbN|apply Rt.jbE|apply Rt.ckR|exact Rt.some' rfl))|((with_reducible (first|apply Rt.ld0|apply Rt.ld1|apply Rt.ld2|apply Rt.ld3|apply Rt.ld4|apply Rt.ld5)); first|assumption|exact Lc.kp (by assumption) (by assumption))|((with_reducible apply Rt.ol); first|assumption|exact cell_kp (by assumption) (by assumption))|fail))
  exact hf R rc w1 h1 h2
end
end Go.Proofs.YtdcdgmiojlldaaaDoor.Fr
/- Frames: a log that was torn off; a bit that was turned; blocks; a record over blocks. -/
namespace Go.Proofs.YtdcdgmiojlldaaaDoor.Fr
open Go Big Go.RowKit Go.IntWalk Crc
set_option linter.unusedVariables false
set_option linter.unusedSimpArgs false
theorem slI : ∃ i, SlT Tryd.prog 40 3 .i64 i := slT (by kernel_rfl)
section
variable {α : Type} {Q : α → Prop} {n m : Nat} {w w' w0 w1 : World} {A B C : Option Addr} {l c d base lo co at_ p tk : Nat} {k : Int} {x r out o zs s now : List Int} {rs acc xs ys : List (List Int)} {wi : Bool}
end
end Go.Proofs.YtdcdgmiojlldaaaDoor.Fr
