/- Numbers in bytes; rows that a call makes and hands out. -/
import Derived.Test.YtdcdgmiojlldaaaM5
namespace Go.Proofs.Ytdcdgmiojlldaaa.Big
open Go Go.RowKit Go.IntWalk
set_option linter.unusedVariables false
set_option linter.unusedSimpArgs false

/-! ### Numbers -/
theorem or64 {x y k : Nat} (hx : x < 2 ^ k) (h : x + y * 2 ^ k < 2 ^ 64) : bits .or .u64 (x : Int) ((y * 2 ^ k : Nat) : Int) = ((x + y * 2 ^ k : Nat) : Int) ∧ bits .or .u64 ((y * 2 ^ k : Nat) : Int) (x : Int) = ((x + y * 2 ^ k : Nat) : Int) := by
  have e : y * 2 ^ k ||| x = x + y * 2 ^ k := by rw [Nat.mul_comm, ← Nat.two_pow_add_eq_or_of_lt hx, Nat.add_comm]
  have hx64 : x < 2 ^ 64 := by omega
  have hy64 : y * 2 ^ k < 2 ^ 64 := by omega
  have hb : (BitVec.ofNat 64 (y * 2 ^ k) ||| BitVec.ofNat 64 x).toNat = x + y * 2 ^ k := by
    rw [BitVec.toNat_or, BitVec.toNat_ofNat, BitVec.toNat_ofNat, Nat.mod_eq_of_lt hx64, Nat.mod_eq_of_lt hy64, e]
  have hb' : (BitVec.ofNat 64 x ||| BitVec.ofNat 64 (y * 2 ^ k)).toNat = x + y * 2 ^ k := by rw [BitVec.or_comm]; exact hb
  constructor
  · unfold bits
    simp only [IntKind.bits, BitVec.ofInt_natCast]
    show IntKind.u64.wrap (((BitVec.ofNat 64 x ||| BitVec.ofNat 64 (y * 2 ^ k)).toNat : Nat) : Int) = _
    rw [hb']
    generalize x + y * 2 ^ k = z at h ⊢
    exact u64_in (z : Int) (by omega)
  · unfold bits
    simp only [IntKind.bits, BitVec.ofInt_natCast]
    show IntKind.u64.wrap (((BitVec.ofNat 64 (y * 2 ^ k) ||| BitVec.ofNat 64 x).toNat : Nat) : Int) = _
    rw [hb]
    generalize x + y * 2 ^ k = z at h ⊢
    exact u64_in (z : Int) (by omega)
theorem orI {x y : Int} (k : Nat) (h0 : 0 ≤ x) (hx : x < 2 ^ k) (hy : 0 ≤ y) (h : x + y * 2 ^ k < 2 ^ 64) : bits .or .u64 x (y * 2 ^ k) = x + y * 2 ^ k ∧ bits .or .u64 (y * 2 ^ k) x = x + y * 2 ^ k := by
  obtain ⟨x, rfl⟩ := Int.eq_ofNat_of_zero_le h0
  obtain ⟨y, rfl⟩ := Int.eq_ofNat_of_zero_le hy
  have e : ((y : Int) * 2 ^ k) = ((y * 2 ^ k : Nat) : Int) := by simp
  rw [e] at h ⊢
  have := or64 (x := x) (y := y) (k := k) (by have : ((x : Int)) < ((2 ^ k : Nat) : Int) := by simpa using hx
                                              omega) (by omega)
  rw [this.1, this.2]
  simp
theorem and255 {x : Int} (h0 : 0 ≤ x) (h : x < 2 ^ 64) : bits .and .u64 x 255 = x % 256 := by
  obtain ⟨x, rfl⟩ := Int.eq_ofNat_of_zero_le h0
  have hb : (BitVec.ofNat 64 x &&& BitVec.ofNat 64 255).toNat = x % 256 := by
    rw [BitVec.toNat_and, BitVec.toNat_ofNat, BitVec.toNat_ofNat, Nat.mod_eq_of_lt (by omega)]
    exact Nat.and_two_pow_sub_one_eq_mod x 8
  unfold bits
  simp only [IntKind.bits]
  show IntKind.u64.wrap (((BitVec.ofInt 64 (x : Int) &&& BitVec.ofInt 64 ((255 : Nat) : Int)).toNat : Nat) : Int) = _
  rw [BitVec.ofInt_natCast, BitVec.ofInt_natCast, hb]
  exact u64_in _ (by omega)
theorem u8w (x : Int) : IntKind.u8.wrap x = x % 256 := by rw [IntKind.wrap_u8]
theorem fdivI (x : Int) (k : Nat) : Int.fdiv x (2 ^ k) = x / 2 ^ k := Int.fdiv_eq_ediv_of_nonneg _ (Int.le_of_lt (Int.pow_pos (by decide)))
def lowB : Nat → Int → List Int
  | 0, _ => []
  | n + 1, x => x % 256 :: lowB n (x / 256)
def le : List Int → Int
  | [] => 0
  | x :: xs => x + 256 * le xs
theorem lowB_len : ∀ (n : Nat) (x : Int), (lowB n x).length = n
  | 0, _ => rfl
  | n + 1, x => by rw [lowB, List.length_cons, lowB_len]
theorem lowB_wf : ∀ (n : Nat) (x : Int), ∀ z ∈ lowB n x, (Lit.int .u8 z).wf = true
  | 0, _, z, h => by simp [lowB] at h
  | n + 1, x, z, h => by
    rw [lowB, List.mem_cons] at h
    rcases h with rfl | h
    · have h0 : IntKind.u8.min = 0 := rfl
      have h1 : IntKind.u8.max = 255 := rfl
      simp only [Lit.wf, h0, h1, Bool.and_eq_true, decide_eq_true_eq]
      omega
    · exact lowB_wf n _ z h
theorem lowB_snoc : ∀ (n : Nat) (x : Int), lowB (n + 1) x = lowB n x ++ [x / 256 ^ n % 256]
  | 0, x => by simp [lowB]
  | n + 1, x => by
    rw [lowB, lowB_snoc n (x / 256), lowB, List.cons_append]
    congr 4
    rw [Int.ediv_ediv_of_nonneg (by decide), Int.pow_succ, Int.mul_comm]
theorem le_lowB : ∀ (n : Nat) {x : Int}, 0 ≤ x → x < 256 ^ n → le (lowB n x) = x
  | 0, x, h0, h => by simp [lowB, le]; omega
  | n + 1, x, h0, h => by
    rw [lowB, le, le_lowB n (by omega) (by rw [Int.pow_succ] at h; generalize (256 : Int) ^ n = q at h ⊢; omega)]
    omega
theorem le_nonneg : ∀ {xs : List Int}, (∀ z ∈ xs, (Lit.int .u8 z).wf = true) → 0 ≤ le xs ∧ le xs < 256 ^ xs.length
  | [], _ => by simp [le]
  | x :: xs, h => by
    have h1 := u8wf (h x List.mem_cons_self)
    have h2 := le_nonneg (xs := xs) fun z hz => h z (List.mem_cons_of_mem _ hz)
    rw [le, List.length_cons, Int.pow_succ]
    generalize (256 : Int) ^ xs.length = q at h2 ⊢
    omega
theorem lowB_le : ∀ {xs : List Int}, (∀ z ∈ xs, (Lit.int .u8 z).wf = true) → lowB xs.length (le xs) = xs
  | [], _ => rfl
  | x :: xs, h => by
    have h1 := u8wf (h x List.mem_cons_self)
    rw [List.length_cons, lowB, le, show (x + 256 * le xs) % 256 = x by omega, show (x + 256 * le xs) / 256 = le xs by omega, lowB_le fun z hz => h z (List.mem_cons_of_mem _ hz)]

/-! ### Rows that a call hands out -/
def RO (k : IntKind) (e : TypeId) (w0 : World) (xs : List Int) : List Value × World → Prop := fun r => ∃ B d w', r = ([.slice B xs.length d], w') ∧ Own k e w' w0.heap.size (.slice B xs.length d) xs ∧ Kp w0 w'
section
variable {α : Type} {Q : α → Prop} {w w0 w' : World} {k : IntKind} {e : TypeId} {xs : List Int}
theorem Rt.cO {x : Option (List Value × World)} (h : Rt x (RO k e w0 xs)) {f : Option Addr → Nat → Nat → World → Option α}
    (hf : ∀ B d w1, Own k e w1 w0.heap.size (.slice B xs.length d) xs → Kp w0 w1 → Rt (f B xs.length d w1) Q) : Rt (Big.cl x fun vs w => Big.tC vs fun u cs => Big.tL u fun A l c => Big.tN cs (f A l c w)) Q := by
  obtain ⟨_, rfl, B, d, w1, rfl, o, k1⟩ := h
  exact hf B d w1 o k1
theorem Rt.endO {A : Option Addr} {l c : Nat} {base : Nat} (ho : Own k e w' base (.slice A l c) xs) (hb : w0.heap.size ≤ base) (hk : Kp w0 w') : Rt (some (⟨.ret, [.slice A l c], w'⟩ : Res)) (fun r => r.ex = .ret ∧ RO k e w0 xs (r.vals, r.w)) := by
  have hl := ho.sl.1
  subst hl
  exact ⟨_, rfl, rfl, A, c, w', rfl, ho.mono hb, hk⟩
theorem Own.gx {base : Nat} {v : Value} {S : Nat → Prop} (h : Own k e w base v xs) (hg : Gx S w w') (hn : ∀ j, v.ownBlock = some j → ¬ S j) : Own k e w' base v xs :=
  ⟨h.1, h.2.imp id fun ⟨g, cap, cur, h1, h2, h3, h4⟩ => ⟨g, cap, cur, h1, h2, by rw [hg.block g (Array.getElem?_eq_some_iff.1 h3).1 (hn g (by rw [h1]; rfl))]; exact h3, h4⟩⟩
theorem Rt.sto3 {b : Nat} {x y z a c d : Value} {f : World → Option α} (hl : Lc w b [x, y, z]) (h : ∀ w1, Lc w1 b [a, c, d] → Gx (fun k => k = b) w w1 → Rt (f w1) Q) :
    Rt (stC w ⟨b, 0, none⟩ a fun w1 => stC w1 (Addr.add ⟨b, 0, none⟩ 1) c fun w2 => stC w2 (Addr.add ⟨b, 0, none⟩ 2) d f) Q :=
  Rt.st0 hl fun w1 l1 g1 => Rt.st1 l1 fun w2 l2 g2 => Rt.st2 l2 fun w3 l3 g3 => h w3 l3 ((g1.tr g2).tr g3)
end

/-! ### Rows of structs, gone on with -/
theorem cell_kp {w w' : World} {a : Addr} {v : Value} (h : w.cell? a = some v) (hk : Kp w w') : w'.cell? a = some v := by
  rw [Below.cell hk (World.block_lt_of_cell? w _ h)]; exact h
section
variable {α γ : Type} {E : El γ} {Q : α → Prop} {P : Program} {t e : TypeId} {w w0 : World} {base : Nat} {v : Value} {xs ys : List γ} {i : TypeInfo} {z : Value}
/-- append(own, came..), of what came in long before. -/
theorem Rt.appS {sz : Nat} (hz : E.sz = sz) (hT : SlTE P t e sz i z) {ty : TypeId} (ho : OwnE E e w base v xs) {B : Option Addr} {m d : Nat} (hs : SlE E w0 B m ys) (hB : B = none → m = 0 ∧ d = 0) (hk : Kp w0 w) (hb0 : w0.heap.size ≤ base)
    (hn : xs.length + m ≤ 2 ^ 36) (hb : base ≤ w.heap.size) {f : Value → World → Option α}
    (h : ∀ A c w', OwnE E e w' base (.slice A (xs.length + m) c) (xs ++ ys) → (∀ w0 : World, Kp w0 w → w0.heap.size ≤ base → Kp w0 w') → w.heap.size ≤ w'.heap.size → Rt (f (.slice A (xs.length + m) c) w') Q) :
    Rt (rn P (Builtin.append_ #[t, t] ty #[v, .slice B m d]) w f) Q := by
  have hv : ∀ w', Gx (On v) w w' → Kp w0 w' := fun w' hg => hk.tx hg fun k hk' => Nat.le_trans hb0 (ho.lt k hk').1
  rcases hs.2 with hnil | ⟨a, vs, rfl, hr, hc⟩
  · subst hnil
    have hm : m = 0 := hs.1.symm
    subst hm
    refine Rt.appE (ys := []) (m := 0) (news := []) hz hT ho rfl hB (fun a _ j u hj => by simp at hj) (by simp) (fun w' _ => (rfl : ([] : List Value) = [])) hn hb fun A c w' o k1 _ k3 => h A c w' o k1 k3
  · refine Rt.appE (ys := ys) (m := m) (news := vs) hz hT ho hs.1 hB (fun a' ha j u hj => by injection ha with ha; subst ha; exact cell_kp (hc j u hj) hk) hr.ones (fun w' hg => hr.kp (hv w' hg)) hn hb fun A c w' o k1 _ k3 => h A c w' o k1 k3
/-- append(own, x) -/
theorem Rt.app1 {sz : Nat} (hz : E.sz = sz) (hT : SlTE P t e sz i z) {ty : TypeId} (ho : OwnE E e w base v xs) {us : List Value} {x : γ} (hl : us.length = sz) (hx : Stb (On v) (fun w => E.rd w us x) w) (hn : xs.length + 1 ≤ 2 ^ 36) (hb : base ≤ w.heap.size)
    {f : Value → World → Option α} (h : ∀ A c w', OwnE E e w' base (.slice A (xs.length + 1) c) (xs ++ [x]) → (∀ w0 : World, Kp w0 w → w0.heap.size ≤ base → Kp w0 w') → w.heap.size < w'.heap.size → Gx (On v) w w' → Rt (f (.slice A (xs.length + 1) c) w') Q) :
    Rt (Big.al w us.toArray e fun w1 => rn P (Builtin.append_ #[t, t] ty #[v, .slice (some ⟨w.heap.size, 0, none⟩) 1 1]) w1 f) Q := by
  have hr : Stb (On v) (fun w => Rows E w us [x]) w := fun w' hg => Rows.one (hx w' hg) (by rw [hl, hz])
  refine Rt.al fun w1 l1 k1 hs1 => ?_
  refine Rt.appE (news := us) hz hT (ho.kp k1) rfl (fun h => by cases h) (fun a ha j u hj => ?_) hr.out.ones (hr.kp k1) hn (Nat.le_trans hb k1.size) fun A c w' o k2 g3 s3 => h A c w' o (fun w0 hk hle => k2 w0 (hk.tr k1) hle) (by omega) ?_
  · injection ha with ha; subst ha
    rw [Addr.add_lit, Nat.zero_add, l1.ld]; exact hj
  · exact (k1.gx (S := On v)).gr g3 fun k _ e => e
theorem Rt.ix0 {b n sz : Nat} {f : Addr → Option α} (hn : 0 < n) (h : Rt (f ⟨b, 0, none⟩) Q) : Rt (ixA (some ⟨b, 0, none⟩) n 0 sz f) Q := by
  have e : ixA (some ⟨b, 0, none⟩) n 0 sz f = f ⟨b, 0, none⟩ := by
    unfold ixA
    simp only
    rw [if_pos ⟨Int.le_refl _, by omega⟩]
    simp [Addr.add]
  rw [e]; exact h
theorem Lc.ev1 {b : Nat} {us : List Value} {x : γ} (h : Lc w b us) (hx : E.rd w us x) (hl : us.length = E.sz) : Ev E w (some ⟨b, 0, none⟩) 1 1 [x] :=
  ⟨⟨rfl, .inr ⟨_, us, rfl, Rows.one hx hl, fun j v hj => by rw [Addr.add_lit, Nat.zero_add, h.ld]; exact hj⟩⟩, (fun h => by cases h), Nat.le_refl _, by decide⟩
end
end Go.Proofs.Ytdcdgmiojlldaaa.Big
