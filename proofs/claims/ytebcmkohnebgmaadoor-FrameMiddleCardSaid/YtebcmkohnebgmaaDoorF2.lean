/- Frames: how the program's functions read: noughts, a piece. -/
import Derived.Test.YtebcmkohnebgmaaDoorF1
namespace Go.Proofs.YtebcmkohnebgmaaDoor.Fr
open Go Big Go.RowKit Go.IntWalk Crc
set_option linter.unusedVariables false
set_option linter.unusedSimpArgs false
/-! ### Numbers -/
theorem orN {K : IntKind} {j : Nat} (hK : K = .i64 ∧ j ≤ 40 ∨ K = .u32 ∧ j ≤ 31) {x y : Int} (h0 : 0 ≤ x) (hx : x < 2 ^ j) (hy : 0 ≤ y) (h : x + y * 2 ^ j < 2 ^ 32) : bits .or K x (y * 2 ^ j) = x + y * 2 ^ j := by
  obtain ⟨x, rfl⟩ := Int.eq_ofNat_of_zero_le h0
  obtain ⟨y, rfl⟩ := Int.eq_ofNat_of_zero_le hy
  have hx : x < 2 ^ j := by have : ((x : Int)) < ((2 ^ j : Nat) : Int) := by simpa using hx
                            omega
  have e : y * 2 ^ j ||| x = x + y * 2 ^ j := by rw [Nat.mul_comm, ← Nat.two_pow_add_eq_or_of_lt hx, Nat.add_comm]
  have ec : ((y : Int) * 2 ^ j) = ((y * 2 ^ j : Nat) : Int) := by simp
  rw [ec] at h ⊢
  have hlt : x + y * 2 ^ j < 2 ^ 32 := by omega
  generalize y * 2 ^ j = z at e h hlt ⊢
  rcases hK with ⟨rfl, _⟩ | ⟨rfl, _⟩
  · have hb : (BitVec.ofNat 64 x ||| BitVec.ofNat 64 z).toNat = x + z := by
      rw [BitVec.toNat_or, BitVec.toNat_ofNat, BitVec.toNat_ofNat, Nat.mod_eq_of_lt (by omega), Nat.mod_eq_of_lt (by omega), Nat.or_comm, e]
    unfold bits
    simp only [IntKind.bits, BitVec.ofInt_natCast]
    show IntKind.i64.wrap (((BitVec.ofNat 64 x ||| BitVec.ofNat 64 z).toNat : Nat) : Int) = _
    rw [hb, i64_in _ (by omega)]; omega
  · have hb : (BitVec.ofNat 32 x ||| BitVec.ofNat 32 z).toNat = x + z := by
      rw [BitVec.toNat_or, BitVec.toNat_ofNat, BitVec.toNat_ofNat, Nat.mod_eq_of_lt (by omega), Nat.mod_eq_of_lt (by omega), Nat.or_comm, e]
    unfold bits
    simp only [IntKind.bits, BitVec.ofInt_natCast]
    show IntKind.u32.wrap (((BitVec.ofNat 32 x ||| BitVec.ofNat 32 z).toNat : Nat) : Int) = _
    rw [hb, u32_in _ (by omega)]; omega
theorem two_bytes {a b : Int} (ha : 0 ≤ a ∧ a < 256) (hb : 0 ≤ b ∧ b < 256) : bits .or .i64 (IntKind.i64.wrap a) (IntKind.i64.wrap (IntKind.i64.wrap b * 2 ^ 8)) = le [a, b] := by
  rw [i64_in a (by omega), i64_in b (by omega), i64_in (b * 2 ^ 8) (by omega), orN (.inl ⟨rfl, by decide⟩) (by omega) (by omega) (by omega) (by omega)]
  simp only [le]; omega
theorem four_bytes {a b c d : Int} (ha : 0 ≤ a ∧ a < 256) (hb : 0 ≤ b ∧ b < 256) (hc : 0 ≤ c ∧ c < 256) (hd : 0 ≤ d ∧ d < 256) :
    bits .or .u32 (bits .or .u32 (bits .or .u32 (IntKind.u32.wrap a) (IntKind.u32.wrap (IntKind.u32.wrap b * 2 ^ 8))) (IntKind.u32.wrap (IntKind.u32.wrap c * 2 ^ 16))) (IntKind.u32.wrap (IntKind.u32.wrap d * 2 ^ 24)) = le [a, b, c, d] := by
  rw [u32_in a (by omega), u32_in b (by omega), u32_in c (by omega), u32_in d (by omega), u32_in (b * 2 ^ 8) (by omega), u32_in (c * 2 ^ 16) (by omega), u32_in (d * 2 ^ 24) (by omega)]
  have e1 := orN (K := .u32) (j := 8) (x := a) (y := b) (.inr ⟨rfl, by decide⟩) (by omega) (by omega) (by omega) (by omega)
  have e2 := orN (K := .u32) (j := 16) (x := a + b * 2 ^ 8) (y := c) (.inr ⟨rfl, by decide⟩) (by omega) (by omega) (by omega) (by omega)
  have e3 := orN (K := .u32) (j := 24) (x := a + b * 2 ^ 8 + c * 2 ^ 16) (y := d) (.inr ⟨rfl, by decide⟩) (by omega) (by omega) (by omega) (by omega)
  rw [e1, e2, e3]
  simp only [le]; omega
section
variable {α : Type} {Q : α → Prop} {n : Nat} {w w0 : World} {A B C : Option Addr} {l c d base lo co at_ : Nat} {k : Int} {x r out o zs : List Int}
/-! ### bytes.Trim -/
theorem right_l0 : ∀ (l m : Nat) (A : Option Addr) (c : Nat) (zs : List Int), l < m → l ≤ 2 ^ 40 → Bv .u8 w A l c zs →
    ∃ B p e, bytes_trimRightByte.l0 n m A l c 0 w = some ⟨.exit 0, [.slice B p e], w⟩ ∧ Bv .u8 w B p e (zs.take p) ∧ (∀ z ∈ zs.drop p, z = 0) ∧ (0 < p → zs.getD (p - 1) 0 ≠ 0) ∧ p ≤ l := by
  intro l
  induction l with
  | zero =>
    intro m A c zs hm _ hb
    obtain ⟨m, rfl⟩ : ∃ m', m = m' + 1 := ⟨m - 1, by omega⟩
    have hz : zs = [] := List.length_eq_zero_iff.1 hb.len
    subst hz
    exact ⟨A, 0, c, by rw [bytes_trimRightByte.l0_succ, cF (by simp)], hb, by simp, by omega, Nat.le_refl _⟩
  | succ l ih =>
    intro m A c zs hm hl hb
    obtain ⟨m, rfl⟩ : ∃ m', m = m' + 1 := ⟨m - 1, by omega⟩
    have hzl := hb.len
    have e1 : IntKind.i64.wrap (((l + 1 : Nat) : Int) - 1) = (l : Int) := by rw [i64_in _ (by omega)]; omega
    rw [bytes_trimRightByte.l0_succ, cT (by rw [decide_eq_true_eq]; omega), e1, hb.sl.ix (by omega) (by omega), Int.toNat_natCast]
    by_cases hz : zs.getD l 0 = 0
    · rw [hz, cT (by simp)]
      have key : Rt (cutS A c 0 (l : Int) 1 fun A4 l5 c6 => some (A4, l5, c6)) (fun p => Bv .u8 w p.1 p.2.1 p.2.2 (zs.take l) ∧ p.2.1 = l) := Rt.cut hb (by omega) (by omega) (by omega) fun B bB => Rt.some' ⟨by
        rw [Int.toNat_natCast, show Int.toNat 0 = 0 from rfl, List.drop_zero] at bB
        rw [Int.toNat_natCast, show Int.toNat 0 = 0 from rfl]; exact bB, by simp⟩
      obtain ⟨⟨B, l', c'⟩, e, hB, hl'⟩ := key
      have hl' : l' = l := hl'
      have hB : Bv .u8 w B l' c' (zs.take l) := hB
      subst hl'
      have ec : ∀ f : Option Addr → Nat → Nat → Option Res, cutS A c 0 (l' : Int) 1 f = f B l' c' := fun f => by
        unfold cutS at e ⊢
        split at e
        · rename_i hc
          rw [if_pos hc]
          injection e with e
          injection e with e1 e2
          injection e2 with e2 e3
          rw [e1, e2, e3]
        · cases e
      obtain ⟨D, p, e', g1, g2, g3, g4, g5⟩ := ih m B c' (zs.take l') (by omega) (by omega) hB
      rw [ec]
      refine ⟨D, p, e', g1, ?_, ?_, ?_, by omega⟩
      · rw [List.take_take, Nat.min_eq_left (by omega)] at g2; exact g2
      · intro z hz'
        have : zs.drop p = (zs.take l').drop p ++ [zs.getD l' 0] := by
          have h1 : zs = zs.take l' ++ [zs.getD l' 0] := by
            have := List.take_append_drop l' zs
            rw [List.drop_eq_getElem_cons (by omega), List.drop_of_length_le (by omega)] at this
            rw [List.getD_eq_getElem?_getD, List.getElem?_eq_getElem (by omega)]
            exact this.symm
          have h2 := congrArg (List.drop p) h1
          rw [List.drop_append_of_le_length (by rw [List.length_take]; omega)] at h2
          exact h2
        rw [this] at hz'
        rcases List.mem_append.1 hz' with h | h
        · exact g3 z h
        · rw [List.mem_singleton.1 h]; exact hz
      · intro hp
        have := g4 hp
        rw [List.getD_eq_getElem?_getD, List.getElem?_take, if_pos (by omega)] at this
        rw [List.getD_eq_getElem?_getD]; exact this
    · rw [cF (by simpa using hz)]
      exact ⟨A, l + 1, c, rfl, by rw [List.take_of_length_le (by omega)]; exact hb, by rw [List.drop_of_length_le (by omega)]; simp, fun _ => by simpa using hz, Nat.le_refl _⟩
theorem cut_eq {hi lo : Int} {xs : List Int} (hb : Bv .u8 w A l c xs) (h0 : 0 ≤ lo) (h1 : lo ≤ hi) (h2 : hi ≤ l) : ∃ B e, (∀ (β : Type) (f : Option Addr → Nat → Nat → Option β), cutS A c lo hi 1 f = f B (hi.toNat - lo.toNat) e) ∧ Bv .u8 w B (hi.toNat - lo.toNat) e ((xs.take hi.toNat).drop lo.toNat) := by
  have key : Rt (cutS A c lo hi 1 fun A4 l5 c6 => some (A4, l5, c6)) (fun p => Bv .u8 w p.1 p.2.1 p.2.2 ((xs.take hi.toNat).drop lo.toNat) ∧ p.2.1 = hi.toNat - lo.toNat) := Rt.cut hb h0 h1 h2 fun B bB => Rt.some' ⟨bB, rfl⟩
  obtain ⟨⟨B, l', c'⟩, e, hB, hl'⟩ := key
  have hl' : l' = hi.toNat - lo.toNat := hl'
  subst hl'
  refine ⟨B, c', fun β f => ?_, hB⟩
  unfold cutS at e ⊢
  split at e
  · rename_i hc
    rw [if_pos hc]
    injection e with e
    injection e with e1 e2
    injection e2 with e2 e3
    rw [e1, e2, e3]
  · cases e
theorem left_l0 : ∀ (l m : Nat) (A : Option Addr) (c : Nat) (zs : List Int), l < m → l ≤ 2 ^ 40 → Bv .u8 w A l c zs →
    ∃ B p e, bytes_trimLeftByte.l0 n m A l c 0 w = some ⟨.exit 0, [.slice B p e], w⟩ ∧ (p = 0 ↔ ∀ z ∈ zs, z = 0) := by
  intro l
  induction l with
  | zero =>
    intro m A c zs hm _ hb
    obtain ⟨m, rfl⟩ : ∃ m', m = m' + 1 := ⟨m - 1, by omega⟩
    have hz : zs = [] := List.length_eq_zero_iff.1 hb.len
    subst hz
    exact ⟨A, 0, c, by rw [bytes_trimLeftByte.l0_succ, cF (by simp)], by simp⟩
  | succ l ih =>
    intro m A c zs hm hl hb
    obtain ⟨m, rfl⟩ : ∃ m', m = m' + 1 := ⟨m - 1, by omega⟩
    have hzl := hb.len
    obtain ⟨z, zs, rfl⟩ : ∃ z t, zs = z :: t := by
      cases zs with
      | nil => simp at hzl
      | cons z t => exact ⟨z, t, rfl⟩
    rw [bytes_trimLeftByte.l0_succ, cT (by rw [decide_eq_true_eq]; omega), hb.sl.ix (by omega) (by omega)]
    show ∃ B p e, cond (z == 0) _ _ = _ ∧ _
    by_cases hz : z = 0
    · subst hz
      rw [cT (by simp)]
      obtain ⟨B, e, e1, hB⟩ := cut_eq hb (lo := 1) (hi := ((l + 1 : Nat) : Int)) (by omega) (by omega) (by omega)
      rw [e1]
      have e2 : (((l + 1 : Nat) : Int)).toNat - Int.toNat 1 = l := by rw [Int.toNat_natCast, show Int.toNat 1 = 1 from rfl]; omega
      rw [e2] at hB ⊢
      rw [Int.toNat_natCast, show Int.toNat 1 = 1 from rfl, List.take_of_length_le (by omega), List.drop_succ_cons, List.drop_zero] at hB
      obtain ⟨D, p, e', g1, g2⟩ := ih m B e zs (by omega) (by omega) hB
      exact ⟨D, p, e', g1, by rw [g2]; simp⟩
    · rw [cF (by simpa using hz)]
      exact ⟨A, l + 1, c, rfl, by simp [hz]⟩
theorem Trim_spec (hn : 2 ^ 50 < n) (hb : Bv .u8 w A l c zs) (hl : l ≤ 2 ^ 38) : Rt (bytes_Trim n [.slice A l c, .string ⟨#[0]⟩] w) fun r => ∃ B p e w', r = ([.slice B p e], w') ∧ Kp w w' ∧ (p = 0 ↔ ∀ z ∈ zs, z = 0) := by
  have hzl := hb.len
  rw [bytes_Trim_eq]
  refine Rt.fin (Rt.cQ (fun h => ?_) fun h => ?_)
  · have hz : zs = [] := List.length_eq_zero_iff.1 (by omega)
    subst hz
    exact Rt.some' ⟨rfl, none, 0, 0, w, rfl, Kp.rfl' w, by simp⟩
  · refine Rt.cF (by simp [ByteArray.toList_mk]) (Rt.jmX (Rt.cT rfl ?_))
    have ix : ∀ (β : Type) (f : Int → Option β), ixS ⟨#[0]⟩ 0 f = f 0 := fun β f => rfl
    rw [ix]
    refine Rt.cT rfl ?_
    rw [ix]
    obtain ⟨B, p, e, g1, g2, g3, g4, g5⟩ := right_l0 (n := n) (w := w.drew) l n A c zs (by omega) (by omega) (hb.kp (Kp.rfl' w).dr)
    have e1 : bytes_trimRightByte n [.slice A l c, .int .u8 0] w.drew = some ([.slice B p e], w.drew) := by
      rw [bytes_trimRightByte_eq, g1]; rfl
    rw [e1]
    (repeat (first | (with_reducible (first | refine Rt.fin ?_ | refine Rt.tL ?_ | refine Rt.tI ?_ | refine Rt.tB ?_ | refine Rt.tS ?_ | refine Rt.tP ?_ | refine Rt.tD ?_ | refine Rt.tM ?_ | refine Rt.tC ?_ | refine Rt.tN ?_ | refine Rt.tA ?_ | refine Rt.tG ?_ | refine Rt.tF ?_ | refine Rt.os ?_ | refine Rt.clS ?_ | refine Rt.jmN ?_ | refine Rt.jbN ?_ | refine Rt.jbE ?_)) | ((with_reducible (first | apply Rt.ld0 | apply Rt.ld1 | apply Rt.ld2 | apply Rt.ld3 | apply Rt.ld4 | apply Rt.ld5)); first | assumption | exact Lc.kp (by assumption) (by assumption)) | ((with_reducible apply Rt.ol); first | assumption | exact cell_kp (by assumption) (by assumption)) | ((with_reducible apply Rt.ckR); focus ((repeat (first | (with_reducible (first | refine Rt.fin ?_ | refine Rt.tL ?_ | refine Rt.tI ?_ | refine Rt.tB ?_ | refine Rt.tS ?_ | refine Rt.tP ?_ | refine Rt.tD ?_ | refine Rt.tM ?_ | refine Rt.tC ?_ | refine Rt.tN ?_ | refine Rt.tA ?_ | refine Rt.tG ?_ | refine Rt.tF ?_ | refine Rt.os ?_ | refine Rt.clS ?_ | refine Rt.jmN ?_ | refine Rt.jbN ?_ | refine Rt.jbE ?_)) | ((with_reducible (first | apply Rt.ld0 | apply Rt.ld1 | apply Rt.ld2 | apply Rt.ld3 | apply Rt.ld4 | apply Rt.ld5)); first | assumption | exact Lc.kp (by assumption) (by assumption)) | ((with_reducible apply Rt.ol); first | assumption | exact cell_kp (by assumption) (by assumption)))); exact Rt.some' rfl))))
    rw [ix]
    obtain ⟨D, q, f, h1, h2⟩ := left_l0 (n := n) (w := w.drew) p n B e (zs.take p) (by omega) (by omega) g2
    have e2 : bytes_trimLeftByte n [.slice B p e, .int .u8 0] w.drew = some ([if q = 0 then .slice none 0 0 else .slice D q f], w.drew) := by
      rw [bytes_trimLeftByte_eq, h1, jb_exit, tC_mk, tL_mk, tN_mk]
      by_cases hq : q = 0
      · subst hq; rfl
      · rw [cF (by simpa using hq), if_neg hq]; rfl
    rw [e2]
    have hiff : q = 0 ↔ ∀ z ∈ zs, z = 0 := by
      rw [h2]
      refine ⟨fun h z hz => ?_, fun h z hz => h z (List.mem_of_mem_take hz)⟩
      rw [← List.take_append_drop p zs] at hz
      rcases List.mem_append.1 hz with h' | h'
      · exact h z h'
      · exact g3 z h'
    by_cases hq : q = 0
    · rw [if_pos hq]
      (repeat (first | (with_reducible (first | refine Rt.fin ?_ | refine Rt.tL ?_ | refine Rt.tI ?_ | refine Rt.tB ?_ | refine Rt.tS ?_ | refine Rt.tP ?_ | refine Rt.tD ?_ | refine Rt.tM ?_ | refine Rt.tC ?_ | refine Rt.tN ?_ | refine Rt.tA ?_ | refine Rt.tG ?_ | refine Rt.tF ?_ | refine Rt.os ?_ | refine Rt.clS ?_ | refine Rt.jmN ?_ | refine Rt.jbN ?_ | refine Rt.jbE ?_)) | ((with_reducible (first | apply Rt.ld0 | apply Rt.ld1 | apply Rt.ld2 | apply Rt.ld3 | apply Rt.ld4 | apply Rt.ld5)); first | assumption | exact Lc.kp (by assumption) (by assumption)) | ((with_reducible apply Rt.ol); first | assumption | exact cell_kp (by assumption) (by assumption)) | ((with_reducible apply Rt.ckR); focus ((repeat (first | (with_reducible (first | refine Rt.fin ?_ | refine Rt.tL ?_ | refine Rt.tI ?_ | refine Rt.tB ?_ | refine Rt.tS ?_ | refine Rt.tP ?_ | refine Rt.tD ?_ | refine Rt.tM ?_ | refine Rt.tC ?_ | refine Rt.tN ?_ | refine Rt.tA ?_ | refine Rt.tG ?_ | refine Rt.tF ?_ | refine Rt.os ?_ | refine Rt.clS ?_ | refine Rt.jmN ?_ | refine Rt.jbN ?_ | refine Rt.jbE ?_)) | ((with_reducible (first | apply Rt.ld0 | apply Rt.ld1 | apply Rt.ld2 | apply Rt.ld3 | apply Rt.ld4 | apply Rt.ld5)); first | assumption | exact Lc.kp (by assumption) (by assumption)) | ((with_reducible apply Rt.ol); first | assumption | exact cell_kp (by assumption) (by assumption)))); exact Rt.some' rfl))))
      exact Rt.some' (.inr ⟨by simp, rfl, none, 0, 0, _, rfl, (Kp.rfl' w).dr, by rw [← hiff]; simp [hq]⟩)
    · rw [if_neg hq]
      (repeat (first | (with_reducible (first | refine Rt.fin ?_ | refine Rt.tL ?_ | refine Rt.tI ?_ | refine Rt.tB ?_ | refine Rt.tS ?_ | refine Rt.tP ?_ | refine Rt.tD ?_ | refine Rt.tM ?_ | refine Rt.tC ?_ | refine Rt.tN ?_ | refine Rt.tA ?_ | refine Rt.tG ?_ | refine Rt.tF ?_ | refine Rt.os ?_ | refine Rt.clS ?_ | refine Rt.jmN ?_ | refine Rt.jbN ?_ | refine Rt.jbE ?_)) | ((with_reducible (first | apply Rt.ld0 | apply Rt.ld1 | apply Rt.ld2 | apply Rt.ld3 | apply Rt.ld4 | apply Rt.ld5)); first | assumption | exact Lc.kp (by assumption) (by assumption)) | ((with_reducible apply Rt.ol); first | assumption | exact cell_kp (by assumption) (by assumption)) | ((with_reducible apply Rt.ckR); focus ((repeat (first | (with_reducible (first | refine Rt.fin ?_ | refine Rt.tL ?_ | refine Rt.tI ?_ | refine Rt.tB ?_ | refine Rt.tS ?_ | refine Rt.tP ?_ | refine Rt.tD ?_ | refine Rt.tM ?_ | refine Rt.tC ?_ | refine Rt.tN ?_ | refine Rt.tA ?_ | refine Rt.tG ?_ | refine Rt.tF ?_ | refine Rt.os ?_ | refine Rt.clS ?_ | refine Rt.jmN ?_ | refine Rt.jbN ?_ | refine Rt.jbE ?_)) | ((with_reducible (first | apply Rt.ld0 | apply Rt.ld1 | apply Rt.ld2 | apply Rt.ld3 | apply Rt.ld4 | apply Rt.ld5)); first | assumption | exact Lc.kp (by assumption) (by assumption)) | ((with_reducible apply Rt.ol); first | assumption | exact cell_kp (by assumption) (by assumption)))); exact Rt.some' rfl))))
      exact Rt.some' (.inr ⟨by simp, rfl, D, q, f, _, rfl, (Kp.rfl' w).dr, hiff⟩)
theorem noughts_spec (hn : 2 ^ 50 < n) (hb : Bv .u8 w A l c zs) (hl : l ≤ 2 ^ 38) (ha : at_ ≤ l) : Rt (frame_noughts n [.slice A l c, .int .i64 (at_ : Int)] w) fun r => ∃ b w', r = ([.int .i64 (((zs.drop at_).take (padN at_)).length : Int), .bool b], w') ∧ Kp w w' ∧ (b = true ↔ ∀ z ∈ (zs.drop at_).take (padN at_), z = 0) := by
  have hzl := hb.len
  have e0 : Int.tmod (at_ : Int) 128 = ((at_ % 128 : Nat) : Int) := by
    rw [Int.tmod_eq_emod_of_nonneg (by omega)]; omega
  have e1 : IntKind.i64.wrap (128 - ((at_ % 128 : Nat) : Int)) = ((128 - at_ % 128 : Nat) : Int) := by rw [i64_in _ (by omega)]; omega
  have e2 : IntKind.i64.wrap ((at_ : Int) + ((128 - at_ % 128 : Nat) : Int)) = ((at_ + (128 - at_ % 128) : Nat) : Int) := by rw [i64_in _ (by omega)]; omega
  rw [frame_noughts_eq, e0, e1, e2]
  refine Rt.fin (Rt.cD (fun h => ?_) fun h => ?_)
  · have hp : padN at_ = 0 := padN_zero (by omega)
    rw [hp]
    exact Rt.some' ⟨rfl, true, w, rfl, Kp.rfl' w, by simp⟩
  · have hp : padN at_ = 128 - at_ % 128 := by unfold padN; rw [if_pos (by omega)]
    rw [hp]
    have e3 : (if (l : Int) < ((at_ + (128 - at_ % 128) : Nat) : Int) then (l : Int) else ((at_ + (128 - at_ % 128) : Nat) : Int)) = ((min l (at_ + (128 - at_ % 128)) : Nat) : Int) := by split <;> omega
    rw [e3]
    have e4 : ((zs.take (min l (at_ + (128 - at_ % 128)))).drop at_) = (zs.drop at_).take (128 - at_ % 128) := by
      rw [List.drop_take, List.take_eq_take_iff, List.length_drop]; omega
    refine Rt.cut hb (by omega) (by omega) (by omega) fun B bB => ?_
    rw [Int.toNat_natCast, Int.toNat_natCast, e4] at bB
    rw [Int.toNat_natCast, Int.toNat_natCast]
    refine Rt.call (Trim_spec hn bB (by omega)) ?_
    rintro vs w1 ⟨D, p, e, w1', hr, k1, hiff⟩
    cases hr
    (repeat (first | (with_reducible (first | refine Rt.fin ?_ | refine Rt.tL ?_ | refine Rt.tI ?_ | refine Rt.tB ?_ | refine Rt.tS ?_ | refine Rt.tP ?_ | refine Rt.tD ?_ | refine Rt.tM ?_ | refine Rt.tC ?_ | refine Rt.tN ?_ | refine Rt.tA ?_ | refine Rt.tG ?_ | refine Rt.tF ?_ | refine Rt.os ?_ | refine Rt.clS ?_ | refine Rt.jmN ?_ | refine Rt.jbN ?_ | refine Rt.jbE ?_)) | ((with_reducible (first | apply Rt.ld0 | apply Rt.ld1 | apply Rt.ld2 | apply Rt.ld3 | apply Rt.ld4 | apply Rt.ld5)); first | assumption | exact Lc.kp (by assumption) (by assumption)) | ((with_reducible apply Rt.ol); first | assumption | exact cell_kp (by assumption) (by assumption)) | ((with_reducible apply Rt.ckR); focus ((repeat (first | (with_reducible (first | refine Rt.fin ?_ | refine Rt.tL ?_ | refine Rt.tI ?_ | refine Rt.tB ?_ | refine Rt.tS ?_ | refine Rt.tP ?_ | refine Rt.tD ?_ | refine Rt.tM ?_ | refine Rt.tC ?_ | refine Rt.tN ?_ | refine Rt.tA ?_ | refine Rt.tG ?_ | refine Rt.tF ?_ | refine Rt.os ?_ | refine Rt.clS ?_ | refine Rt.jmN ?_ | refine Rt.jbN ?_ | refine Rt.jbE ?_)) | ((with_reducible (first | apply Rt.ld0 | apply Rt.ld1 | apply Rt.ld2 | apply Rt.ld3 | apply Rt.ld4 | apply Rt.ld5)); first | assumption | exact Lc.kp (by assumption) (by assumption)) | ((with_reducible apply Rt.ol); first | assumption | exact cell_kp (by assumption) (by assumption)))); exact Rt.some' rfl))))
    exact Rt.some' ⟨rfl, _, w1, by rw [bB.len], k1, by rw [← hiff]; simp⟩
end
end Go.Proofs.YtebcmkohnebgmaaDoor.Fr
