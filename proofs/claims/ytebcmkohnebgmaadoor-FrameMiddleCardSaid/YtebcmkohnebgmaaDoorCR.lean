/- What the functions of package crc compute. -/
import Derived.Test.YtebcmkohnebgmaaDoorG
import Derived.Test.YtebcmkohnebgmaaDoorM9
namespace Go.Proofs.YtebcmkohnebgmaaDoor.Crc
open Go Big Go.RowKit Go.IntWalk
set_option linter.unusedVariables false
set_option linter.unusedSimpArgs false

theorem cFin {x : Bool} {α : Type} {a b : α} (h : x = true) : cond x a b = a := by rw [h]; rfl
theorem cFalse {x : Bool} {α : Type} {a b : α} (h : x = false) : cond x a b = b := by rw [h]; rfl

/-- One bit further. -/
def one (x : Int) : Int := cond ((bits .and .u32 x 1) == 1) (bits .xor .u32 (Int.fdiv x (2 ^ 1)) 2197175160) (Int.fdiv x (2 ^ 1))
def many : Nat → Int → Int
  | 0, x => x
  | n + 1, x => many n (one x)
def tab : List Int := (List.range 256).map fun (i : Nat) => many 8 (i : Int)
theorem tab_len : tab.length = 256 := by simp [tab]
theorem tab_get {i : Nat} (h : i < 256) : tab.getD i 0 = many 8 i := by simp [tab, List.getD_eq_getElem?_getD, h]

section
variable {n : Nat} {w : World}
theorem Table_l1 (A : Option Addr) (l c : Nat) (y z u : Int) : ∀ (j k m : Nat) (x : Int), j + k = 8 → k < m → crc_Table.l1 n m A l c y x z u (j : Int) w = some ⟨.exit 2, [.slice A l c, .int .i64 y, .int .u32 (many k x), .int .i64 z, .int .i64 u], w⟩ := by
  intro j k
  induction k generalizing j with
  | zero =>
    intro m x hj hm
    obtain ⟨m, rfl⟩ : ∃ m', m = m' + 1 := ⟨m - 1, by omega⟩
    rw [crc_Table.l1_succ, cFalse (by simp; omega)]
    rfl
  | succ k ih =>
    intro m x hj hm
    obtain ⟨m, rfl⟩ : ∃ m', m = m' + 1 := ⟨m - 1, by omega⟩
    rw [crc_Table.l1_succ, cFin (by simp; omega)]
    have hi : IntKind.i64.wrap ((j : Int) + 1) = ((j + 1 : Nat) : Int) := by rw [i64_in _ (by omega)]; omega
    have e := fun x => ih (j + 1) m x (by omega) (by omega)
    unfold many one
    cases hb : ((bits .and .u32 x 1) == 1)
    · simp only [cond_false, jb_norm, tC_mk, tL_mk, tI_mk, tN_mk, hi]; exact e _
    · simp only [cond_true, jb_norm, tC_mk, tL_mk, tI_mk, tN_mk, hi]; exact e _

theorem slT34 : ∃ i, SlT Tryd.prog 39 52 .u32 i := slT (by kernel_rfl)
theorem slT24 : ∃ i, SlT Tryd.prog 22 5 .u8 i := slT (by kernel_rfl)

theorem Table_l0 (hn : 300 ≤ n) (base : Nat) (A : Option Addr) (c : Nat) : ∀ (j k m : Nat) (xs : List Int) (w : World), j + k = 256 → k < m → Own .u32 52 w base (.slice A 256 c) xs → (∀ i, i < j → xs.getD i 0 = many 8 i) → xs.length = 256 →
    ∃ w', crc_Table.l0 n m A 256 c 256 (j : Int) w = some ⟨.exit 0, [.slice A 256 c], w'⟩ ∧ Own .u32 52 w' base (.slice A 256 c) tab ∧ (∀ w0 : World, Kp w0 w → w0.heap.size ≤ base → Kp w0 w') := by
  intro j k
  induction k generalizing j with
  | zero =>
    intro m xs w hj hm ho hx hl
    obtain ⟨m, rfl⟩ : ∃ m', m = m' + 1 := ⟨m - 1, by omega⟩
    refine ⟨w, by rw [crc_Table.l0_succ, cFalse (by simp; omega)], ?_, fun w0 h _ => h⟩
    have : xs = tab := by
      apply List.ext_getElem (by rw [hl, tab_len])
      intro i h1 h2
      have := hx i (by omega)
      rw [← tab_get (by omega), List.getD_eq_getElem?_getD, List.getD_eq_getElem?_getD, List.getElem?_eq_getElem h1, List.getElem?_eq_getElem h2] at this
      simpa using this
    rw [← this]; exact ho
  | succ k ih =>
    intro m xs w hj hm ho hx hl
    obtain ⟨m, rfl⟩ : ∃ m', m = m' + 1 := ⟨m - 1, by omega⟩
    have h1 := Table_l1 (n := n) (w := w) A 256 c (j : Int) 256 (j : Int) 0 8 n (IntKind.u32.wrap j) rfl (by omega)
    obtain ⟨a, w', rfl, hb, hw', ho', hg, hst⟩ := ho.store (i := (j : Int)) (by omega) (by omega) (many 8 (IntKind.u32.wrap j))
    have hi : IntKind.i64.wrap ((j : Int) + 1) = ((j + 1 : Nat) : Int) := by rw [i64_in _ (by omega)]; omega
    have hu : IntKind.u32.wrap (j : Int) = j := u32_in _ (by omega)
    obtain ⟨w2, h2, h3, h4⟩ := ih (j + 1) m (xs.set j (many 8 j)) w' (by omega) (by omega) (by simpa [hu] using ho') (fun i hi => by
      by_cases hij : i = j
      · subst hij; simp [List.getD_eq_getElem?_getD, hl, show i < 256 by omega]
      · have := hx i (by omega)
        rw [List.getD_eq_getElem?_getD] at this ⊢
        rw [List.getElem?_set_ne (by omega)]; exact this) (by simp [hl])
    refine ⟨w2, ?_, h3, fun w0 h h' => h4 w0 ?_ h'⟩
    · have h1' : crc_Table.l1 n n (some a) 256 c (j : Int) (IntKind.u32.wrap (j : Int)) 256 (j : Int) 0 w = _ := h1
      rw [crc_Table.l0_succ, cFin (by simp; omega), h1', jb_exit]
      simp only [tC_mk, tL_mk, tI_mk, tN_mk, hi]
      rw [← h2]
      exact hst _
    · rw [hw']; exact h.st (by simpa [Addr.add] using (by split <;> simpa using Nat.le_trans h' hb)) _
theorem Table_spec (hn : 300 ≤ n) (w : World) : ∃ A c w', crc_Table n [] w = some ([.slice A 256 c], w') ∧ Own .u32 52 w' w.heap.size (.slice A 256 c) tab ∧ Kp w w' := by
  obtain ⟨i, hT⟩ := slT34
  obtain ⟨w1, h1, h2, h3⟩ := make_run hT w 256 (by decide)
  obtain ⟨w2, h4, h5, h6⟩ := Table_l0 (n := n) hn w.heap.size _ 256 0 256 n (List.replicate 256 0) w1 rfl (by omega) h2 (by intro i hi; omega) List.length_replicate
  refine ⟨_, _, w2, ?_, h5, h6 w h3 (Nat.le_refl _)⟩
  have h1' := fun (f : Value → World → Option Res) => h1 f
  have h4' : crc_Table.l0 n n (some ⟨w.heap.size, 0, none⟩) 256 256 256 0 w1 = _ := h4
  rw [crc_Table_eq]
  have e : ((256 : Nat) : Int) = 256 := rfl
  rw [e] at h1'
  rw [h1']
  simp only [tL_mk, e]
  rw [h4', jb_exit]
  rfl

/-! ### Sums -/
def sumG (t : List Int) : List Int → Int → Int
  | [], x => x
  | b :: bs, x => sumG t bs (bits .xor .u32 (Int.fdiv x (2 ^ 8)) (t.getD (bits .xor .u8 (IntKind.u8.wrap x) b).toNat 0))
def sum (b : List Int) : Int := bits .xor .u32 4294967295 (sumG tab b 4294967295)
theorem u8_range (op : BinOp) (x y : Int) : 0 ≤ bits op .u8 x y ∧ bits op .u8 x y < 256 := by
  unfold bits
  rw [IntKind.wrap_u8]
  omega
theorem Sum_l0 (A : Option Addr) (c : Nat) (t : List Int) (ht : Sl .u32 w A 256 t) (B : Option Addr) (l d : Nat) (b : List Int) (hb : Sl .u8 w B l b) (hl : l < 2 ^ 50) :
    ∀ (k j m : Nat) (x : Int), j + k = l → k < m → crc_Sum.l0 n m A 256 c x B l d (l : Int) (j : Int) w = some ⟨.exit 0, [.int .u32 (sumG t (b.drop j) x)], w⟩ := by
  intro k
  induction k with
  | zero =>
    intro j m x hj hm
    obtain ⟨m, rfl⟩ : ∃ m', m = m' + 1 := ⟨m - 1, by omega⟩
    rw [crc_Sum.l0_succ, cFalse (by simp; omega), List.drop_of_length_le (by rw [hb.1]; omega)]
    rfl
  | succ k ih =>
    intro j m x hj hm
    obtain ⟨m, rfl⟩ : ∃ m', m = m' + 1 := ⟨m - 1, by omega⟩
    have hi : IntKind.i64.wrap ((j : Int) + 1) = ((j + 1 : Nat) : Int) := by rw [i64_in _ (by omega)]; omega
    have hlen : j < b.length := by rw [hb.1]; omega
    rw [crc_Sum.l0_succ, cFin (by simp; omega), hb.ix (by omega) (by omega), hi, Int.toNat_natCast, ht.ix (u8_range _ _ _).1 (u8_range _ _ _).2, ih (j + 1) m _ (by omega) (by omega)]
    rw [List.drop_eq_getElem_cons hlen, sumG]
    simp [List.getD_eq_getElem?_getD, hlen]
theorem Sum_spec (hn : 300 ≤ n) (hn2 : 2 ^ 50 < n) (A : Option Addr) (c : Nat) (t : List Int) (ht : Sl .u32 w A 256 t) (B : Option Addr) (l d : Nat) (b : List Int) (hb : Sl .u8 w B l b) (hl : l < 2 ^ 50) :
    crc_Sum n [.slice A 256 c, .slice B l d] w = some ([.int .u32 (bits .xor .u32 4294967295 (sumG t b 4294967295))], w) := by
  have h := Sum_l0 (n := n) A c t ht B l d b hb hl l 0 n 4294967295 (by omega) (by omega)
  have h : crc_Sum.l0 n n A 256 c 4294967295 B l d (l : Int) 0 w = _ := h
  rw [crc_Sum_eq]
  simp only [bne_self_eq_false, cond_false, jm_norm, tC_mk, tL_mk, tN_mk, show (((256 : Nat) : Int) != 256) = false from rfl]
  rw [h, jb_exit]
  rfl
theorem Sum_other (hn : 300 ≤ n) (hn2 : 2 ^ 50 < n) (A : Option Addr) (lt c : Nat) (hlt : lt ≠ 256) (B : Option Addr) (l d : Nat) (b : List Int) (hb : Sl .u8 w B l b) (hl : l < 2 ^ 50) :
    ∃ w', crc_Sum n [.slice A lt c, .slice B l d] w = some ([.int .u32 (sum b)], w') ∧ Kp w w' := by
  obtain ⟨A', c', w', h1, h2, h3⟩ := Table_spec hn w
  have h := Sum_l0 (n := n) (w := w') A' c' tab h2.sl.2 B l d b (hb.kp h3) hl l 0 n 4294967295 (by omega) (by omega)
  have h : crc_Sum.l0 n n A' 256 c' 4294967295 B l d (l : Int) 0 w' = _ := h
  refine ⟨w', ?_, h3⟩
  rw [crc_Sum_eq, cFin (by simp; omega), h1]
  simp only [cl_some, jm_norm, tC_mk, tL_mk, tN_mk]
  rw [h, jb_exit]
  rfl
end
end Go.Proofs.YtebcmkohnebgmaaDoor.Crc
