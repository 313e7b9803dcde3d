/- Drop: ten examples. -/
import Derived.Test.YtoilmnplocfipaaD3
namespace Go.Proofs.Ytoilmnplocfipaa.Dr
open Go Big Go.RowKit Go.IntWalk Ik
set_option linter.unusedVariables false
set_option linter.unusedSimpArgs false
def entX (x : Int) : En := ⟨[107], if x < 0 then -x else x, if x < 0 then 0 else 1, []⟩
def slEl (k : IntKind) : El (List Int) where
  sz := 1
  rd w vs xs := ∃ A l c, vs = [.slice A l c] ∧ Bv k w A l c xs
  kp := fun hk ⟨A, l, c, e, h⟩ => ⟨A, l, c, e, h.kp hk⟩
  one := fun ⟨A, l, c, e, h⟩ u hu => by subst e; rw [List.mem_singleton] at hu; subst hu; rfl
def boEl : El Bool where
  sz := 1
  rd _ vs b := vs = [.bool b]
  kp := fun _ h => h
  one := fun e u hu => by subst e; rw [List.mem_singleton] at hu; subst hu; rfl
theorem Rows.one1 {γ : Type} {E : El γ} {w : World} {v : Value} {x : γ} {vs : List Value} {xs : List γ} (hz : E.sz = 1) (h : E.rd w [v] x) (hr : Big.Rows E w vs xs) : Big.Rows E w (v :: vs) (x :: xs) := ⟨[v], vs, rfl, by rw [hz]; rfl, h, hr⟩
theorem Rows.nil1 {γ : Type} {E : El γ} {w : World} : Big.Rows E w [] [] := rfl
section
variable {α : Type} {Q : α → Prop} {n base : Nat} {w w0 w' : World} {A B C D E : Option Addr} {l c m d : Nat} {xs ys zs : List En} {is : List Int}
theorem Rt.ix1 {γ : Type} {E : El γ} {xs : List γ} (hz : E.sz = 1) (hs : SlE E w A l xs) {i : Int} (h0 : 0 ≤ i) (h1 : i < l) {f : Addr → Option α}
    (h : ∀ x a v, xs[i.toNat]? = some x → E.rd w [v] x → w.cell? a = some v → (∀ {β : Type} (g : Addr → Option β), ixA A l i 1 g = g a) → Rt (f a) Q) : Rt (ixA A l i 1 f) Q := by
  obtain ⟨x, a, us, e1, e2, e3, e4, e5⟩ := hs.at_ h0 h1
  rw [hz] at e2 e3
  match us, e3 with
  | [v], _ =>
    rw [e2]
    have c0 := e5 0 _ rfl
    rw [Addr.add_zero'] at c0
    exact h x a v e1 e4 c0 e2
theorem entries_l0 (hx : Bv .i64 w A l c is) (hr : ∀ x ∈ is, -2 ^ 62 < x ∧ x < 2 ^ 62) (hl : l ≤ 2 ^ 30) : ∀ (f i j : Nat) (D : Option Addr) (c8 : Nat) (w' : World), i + f = l → f < j → Kp w w' →
    OwnE enEl 34 w' w.heap.size (.slice D ((is.take i).map entX).length c8) ((is.take i).map entX) →
    Rt (butterylaw21_entries.l0 n j A l c D ((is.take i).map entX).length c8 (i : Int) w') fun r => r.ex = .exit 0 ∧ ∃ D c8, r.vals = [.slice D (is.map entX).length c8] ∧ Ev enEl r.w D (is.map entX).length c8 (is.map entX) ∧ Kp w r.w := by
  obtain ⟨t, z, hT⟩ := slE
  have hxl := hx.len
  intro f
  induction f with
  | zero =>
    intro i j D c8 w' hi hj hk ho
    obtain ⟨j, rfl⟩ : ∃ j', j = j' + 1 := ⟨j - 1, by omega⟩
    rw [List.take_of_length_le (by omega)] at ho ⊢
    rw [butterylaw21_entries.l0_succ]
    exact Rt.cDF (by omega) (Rt.some' ⟨rfl, D, c8, rfl, ho.ev, hk⟩)
  | succ f ih =>
    intro i j D c8 w' hi hj hk ho
    obtain ⟨j, rfl⟩ : ∃ j', j = j' + 1 := ⟨j - 1, by omega⟩
    rw [butterylaw21_entries.l0_succ]
    have ex : is[i]? = some (is.getD i 0) := by rw [List.getD_eq_getElem?_getD, List.getElem?_eq_getElem (by omega)]; rfl
    have hrx := hr _ (List.mem_of_getElem? ex)
    have e1 : (is.take (i + 1)).map entX = (is.take i).map entX ++ [entX (is.getD i 0)] := by rw [take_succ_at ex, List.map_append]; rfl
    generalize hz : is.getD i 0 = x at ex hrx e1
    refine Rt.cDT (by omega) (Rt.litS conv [107] 1 rfl rfl (by decide) (by decide) fun K w1 b1 k1 => ?_)
    (repeat (first | (with_reducible (first | refine Rt.fin ?_ | refine Rt.tL ?_ | refine Rt.tI ?_ | refine Rt.tB ?_ | refine Rt.tS ?_ | refine Rt.tP ?_ | refine Rt.tD ?_ | refine Rt.tM ?_ | refine Rt.tC ?_ | refine Rt.tN ?_ | refine Rt.tA ?_ | refine Rt.tG ?_ | refine Rt.tF ?_ | refine Rt.os ?_ | refine Rt.clS ?_ | refine Rt.jmN ?_ | refine Rt.jbN ?_ | refine Rt.jbE ?_)) | ((with_reducible (first | apply Rt.ld0 | apply Rt.ld1 | apply Rt.ld2 | apply Rt.ld3 | apply Rt.ld4 | apply Rt.ld5)); first | assumption | exact Lc.kp (by assumption) (by assumption)) | ((with_reducible apply Rt.ol); first | assumption | exact cell_kp (by assumption) (by assumption)) | ((with_reducible apply Rt.ckR); focus ((repeat (first | (with_reducible (first | refine Rt.fin ?_ | refine Rt.tL ?_ | refine Rt.tI ?_ | refine Rt.tB ?_ | refine Rt.tS ?_ | refine Rt.tP ?_ | refine Rt.tD ?_ | refine Rt.tM ?_ | refine Rt.tC ?_ | refine Rt.tN ?_ | refine Rt.tA ?_ | refine Rt.tG ?_ | refine Rt.tF ?_ | refine Rt.os ?_ | refine Rt.clS ?_ | refine Rt.jmN ?_ | refine Rt.jbN ?_ | refine Rt.jbE ?_)) | ((with_reducible (first | apply Rt.ld0 | apply Rt.ld1 | apply Rt.ld2 | apply Rt.ld3 | apply Rt.ld4 | apply Rt.ld5)); first | assumption | exact Lc.kp (by assumption) (by assumption)) | ((with_reducible apply Rt.ol); first | assumption | exact cell_kp (by assumption) (by assumption)))); exact Rt.some' rfl))))
    have hk1 := hk.tr k1
    refine Rt.ix (hx.kp hk1).sl (by omega) (by omega) ?_
    rw [Int.toNat_natCast, hz]
    refine Rt.al3 fun w2 l2 k2 s2 => ?_
    have hk2 := hk1.tr k2
    have k12 := k1.tr k2
    refine Rt.jm (Rt.mono (Q' := fun r => r.ex = .norm ∧ r.vals = [.slice A l c, .slice D ((is.take i).map entX).length c8, .int .i64 (i : Int), .pointer (some ⟨w1.heap.size, 0, none⟩)] ∧ Kp w' r.w ∧ Kp w1 r.w ∧ Lc r.w w1.heap.size [.slice K 1 1, .int .u64 (if x < 0 then -x else x), .int .i64 (if x < 0 then 0 else 1)]) ?_ ?_)
    · refine Rt.ix (hx.kp hk2).sl (by omega) (by omega) ?_
      rw [Int.toNat_natCast, hz]
      refine Rt.cD (fun h => ?_) fun h => ?_
      · refine Rt.ix (hx.kp hk2).sl (by omega) (by omega) ?_
        rw [Int.toNat_natCast, hz]
        refine Rt.st1 l2 fun w3 l3 g3 => Rt.st2 l3 fun w4 l4 g4 => ?_
        have g := g3.tr g4
        have e : IntKind.u64.wrap (IntKind.i64.wrap (0 - x)) = if x < 0 then -x else x := by rw [if_pos h, i64_in _ (by omega), u64_in _ (by omega)]; omega
        rw [e] at l4
        have e' : (if x < 0 then (0 : Int) else 1) = 0 := if_pos h
        refine Rt.some' ⟨rfl, rfl, k12.tx g fun jj hj => by have := k1.size; omega, k2.tx g fun jj hj => by omega, by rw [e']; exact l4⟩
      · have e : IntKind.u64.wrap x = if x < 0 then -x else x := by rw [if_neg h, u64_in _ (by omega)]
        rw [e] at l2
        have e' : (if x < 0 then (0 : Int) else 1) = 1 := if_neg h
        exact Rt.some' ⟨rfl, rfl, k12, k2, by rw [e']; exact l2⟩
    · rintro ⟨ex', vs, w4⟩ ⟨h1, h2, k4, k14, l4⟩
      dsimp only at h1 h2 k4 k14 l4
      subst h1 h2
      refine ⟨rfl, ?_⟩
      dsimp only
      (repeat (first | (with_reducible (first | refine Rt.fin ?_ | refine Rt.tL ?_ | refine Rt.tI ?_ | refine Rt.tB ?_ | refine Rt.tS ?_ | refine Rt.tP ?_ | refine Rt.tD ?_ | refine Rt.tM ?_ | refine Rt.tC ?_ | refine Rt.tN ?_ | refine Rt.tA ?_ | refine Rt.tG ?_ | refine Rt.tF ?_ | refine Rt.os ?_ | refine Rt.clS ?_ | refine Rt.jmN ?_ | refine Rt.jbN ?_ | refine Rt.jbE ?_)) | ((with_reducible (first | apply Rt.ld0 | apply Rt.ld1 | apply Rt.ld2 | apply Rt.ld3 | apply Rt.ld4 | apply Rt.ld5)); first | assumption | exact Lc.kp (by assumption) (by assumption)) | ((with_reducible apply Rt.ol); first | assumption | exact cell_kp (by assumption) (by assumption)) | ((with_reducible apply Rt.ckR); focus ((repeat (first | (with_reducible (first | refine Rt.fin ?_ | refine Rt.tL ?_ | refine Rt.tI ?_ | refine Rt.tB ?_ | refine Rt.tS ?_ | refine Rt.tP ?_ | refine Rt.tD ?_ | refine Rt.tM ?_ | refine Rt.tC ?_ | refine Rt.tN ?_ | refine Rt.tA ?_ | refine Rt.tG ?_ | refine Rt.tF ?_ | refine Rt.os ?_ | refine Rt.clS ?_ | refine Rt.jmN ?_ | refine Rt.jbN ?_ | refine Rt.jbE ?_)) | ((with_reducible (first | apply Rt.ld0 | apply Rt.ld1 | apply Rt.ld2 | apply Rt.ld3 | apply Rt.ld4 | apply Rt.ld5)); first | assumption | exact Lc.kp (by assumption) (by assumption)) | ((with_reducible apply Rt.ol); first | assumption | exact cell_kp (by assumption) (by assumption)))); exact Rt.some' rfl))))
      have ho4 := ho.kp k4
      have hrs : (Lit.int .u64 (if x < 0 then -x else x)).wf = true := by
        have h0 : IntKind.u64.min = 0 := rfl
        have h1 : IntKind.u64.max = 2 ^ 64 - 1 := rfl
        simp only [Lit.wf, h0, h1, Bool.and_eq_true, decide_eq_true_eq]
        split <;> omega
      have hrk : (Lit.int .i64 (if x < 0 then 0 else 1)).wf = true := by split <;> decide
      refine Rt.app1f rfl hT ho4 rfl (x := entX x) ?_ (by rw [List.length_map, List.length_take]; omega) (by have := hk.size; have := k4.size; omega) fun A7 c9 w7 o7 g7 f7 s7 => ?_
      · exact fun w8 g8 => ⟨_, _, _, _, _, _, _, _, rfl, b1 _ (fun jj hj => (ho.lt jj hj).2) w8 (k14.gx.tr g8), rfl, rfl, hrs, hrk, bv_none⟩
      (repeat (first | (with_reducible (first | refine Rt.fin ?_ | refine Rt.tL ?_ | refine Rt.tI ?_ | refine Rt.tB ?_ | refine Rt.tS ?_ | refine Rt.tP ?_ | refine Rt.tD ?_ | refine Rt.tM ?_ | refine Rt.tC ?_ | refine Rt.tN ?_ | refine Rt.tA ?_ | refine Rt.tG ?_ | refine Rt.tF ?_ | refine Rt.os ?_ | refine Rt.clS ?_ | refine Rt.jmN ?_ | refine Rt.jbN ?_ | refine Rt.jbE ?_)) | ((with_reducible (first | apply Rt.ld0 | apply Rt.ld1 | apply Rt.ld2 | apply Rt.ld3 | apply Rt.ld4 | apply Rt.ld5)); first | assumption | exact Lc.kp (by assumption) (by assumption)) | ((with_reducible apply Rt.ol); first | assumption | exact cell_kp (by assumption) (by assumption)) | ((with_reducible apply Rt.ckR); focus ((repeat (first | (with_reducible (first | refine Rt.fin ?_ | refine Rt.tL ?_ | refine Rt.tI ?_ | refine Rt.tB ?_ | refine Rt.tS ?_ | refine Rt.tP ?_ | refine Rt.tD ?_ | refine Rt.tM ?_ | refine Rt.tC ?_ | refine Rt.tN ?_ | refine Rt.tA ?_ | refine Rt.tG ?_ | refine Rt.tF ?_ | refine Rt.os ?_ | refine Rt.clS ?_ | refine Rt.jmN ?_ | refine Rt.jbN ?_ | refine Rt.jbE ?_)) | ((with_reducible (first | apply Rt.ld0 | apply Rt.ld1 | apply Rt.ld2 | apply Rt.ld3 | apply Rt.ld4 | apply Rt.ld5)); first | assumption | exact Lc.kp (by assumption) (by assumption)) | ((with_reducible apply Rt.ol); first | assumption | exact cell_kp (by assumption) (by assumption)))); exact Rt.some' rfl))))
      have e2 : ((is.take i).map entX).length + 1 = ((is.take (i + 1)).map entX).length := by rw [e1, List.length_append]; rfl
      rw [e2] at o7 ⊢
      rw [← e1] at o7
      rw [i64_in _ (by omega), show ((i : Int) + 1) = ((i + 1 : Nat) : Int) by omega]
      exact ih (i + 1) j A7 c9 w7 (by omega) (by omega) ((hk.tr k4).tx g7 fun jj hj => (ho.lt jj hj).1) o7

theorem entries_spec (hx : Bv .i64 w A l c is) (hr : ∀ x ∈ is, -2 ^ 62 < x ∧ x < 2 ^ 62) (hl : l ≤ 2 ^ 30) (hn : l < n) : Rt (butterylaw21_entries n [.slice A l c] w) (REv (is.map entX) w) := by
  have hxl := hx.len
  rw [butterylaw21_entries_eq]
  refine Rt.fin (Rt.jb (Rt.mono (entries_l0 (n := n) hx hr hl l 0 n none 0 w (by omega) (by omega) (Kp.rfl' w) (by simpa using OwnE.nil w w.heap.size)) ?_))
  rintro ⟨ex, vs, w1⟩ ⟨h1, D, c8, h2, h3, k1⟩
  dsimp only at h1 h2 h3 k1
  subst h1 h2
  refine .inl ⟨.inr rfl, ?_⟩
  (repeat (first | (with_reducible (first | refine Rt.fin ?_ | refine Rt.tL ?_ | refine Rt.tI ?_ | refine Rt.tB ?_ | refine Rt.tS ?_ | refine Rt.tP ?_ | refine Rt.tD ?_ | refine Rt.tM ?_ | refine Rt.tC ?_ | refine Rt.tN ?_ | refine Rt.tA ?_ | refine Rt.tG ?_ | refine Rt.tF ?_ | refine Rt.os ?_ | refine Rt.clS ?_ | refine Rt.jmN ?_ | refine Rt.jbN ?_ | refine Rt.jbE ?_)) | ((with_reducible (first | apply Rt.ld0 | apply Rt.ld1 | apply Rt.ld2 | apply Rt.ld3 | apply Rt.ld4 | apply Rt.ld5)); first | assumption | exact Lc.kp (by assumption) (by assumption)) | ((with_reducible apply Rt.ol); first | assumption | exact cell_kp (by assumption) (by assumption)) | ((with_reducible apply Rt.ckR); focus ((repeat (first | (with_reducible (first | refine Rt.fin ?_ | refine Rt.tL ?_ | refine Rt.tI ?_ | refine Rt.tB ?_ | refine Rt.tS ?_ | refine Rt.tP ?_ | refine Rt.tD ?_ | refine Rt.tM ?_ | refine Rt.tC ?_ | refine Rt.tN ?_ | refine Rt.tA ?_ | refine Rt.tG ?_ | refine Rt.tF ?_ | refine Rt.os ?_ | refine Rt.clS ?_ | refine Rt.jmN ?_ | refine Rt.jbN ?_ | refine Rt.jbE ?_)) | ((with_reducible (first | apply Rt.ld0 | apply Rt.ld1 | apply Rt.ld2 | apply Rt.ld3 | apply Rt.ld4 | apply Rt.ld5)); first | assumption | exact Lc.kp (by assumption) (by assumption)) | ((with_reducible apply Rt.ol); first | assumption | exact cell_kp (by assumption) (by assumption)))); exact Rt.some' rfl))))
  exact Rt.some' ⟨rfl, D, c8, w1, rfl, h3, k1⟩
def exL : List (List Int) := [[5, 3, 1], [5, 3, 1], [5, 3, 1], [-5, 3], [-5, 3], [-5, 3], [-5, -3], [5, -3], [5, -3], [-5, 3, 1]]
def exS : List (List Int) := [[], [3], [4, 2], [], [], [4], [3], [3], [3], [5]]
def exB : List Bool := [true, true, false, false, true, true, true, true, false, true]
def exW : List (List Int) := [[5], [5, 3], [5, 3, 1], [-5], [], [-5, 3], [-5], [5], [5, -3], []]
instance decR : ∀ (l : List En), Decidable (risingE l)
  | [] => .isTrue trivial
  | [_] => .isTrue trivial
  | x :: y :: l => @instDecidableAnd _ _ (inferInstanceAs (Decidable (cmpK x.k y.k < 0))) (decR (y :: l))
theorem known : ∀ i, i < 10 → ∃ a s b z, exL[i]? = some a ∧ exS[i]? = some s ∧ exB[i]? = some b ∧ exW[i]? = some z ∧ risingE (a.map entX) ∧ keepP s b (a.map entX) = z.map entX := by
  intro i hi
  rcases (by omega : i = 0 ∨ i = 1 ∨ i = 2 ∨ i = 3 ∨ i = 4 ∨ i = 5 ∨ i = 6 ∨ i = 7 ∨ i = 8 ∨ i = 9) with rfl | rfl | rfl | rfl | rfl | rfl | rfl | rfl | rfl | rfl <;> exact ⟨_, _, _, _, rfl, rfl, rfl, rfl, by decide, by rfl⟩
theorem exL_ok : ∀ a ∈ exL, a.length ≤ 3 ∧ ∀ x ∈ a, -2 ^ 62 < x ∧ x < 2 ^ 62 := by decide
theorem exW_ok : ∀ a ∈ exW, a.length ≤ 3 ∧ ∀ x ∈ a, -2 ^ 62 < x ∧ x < 2 ^ 62 := by decide
theorem exS_ok : ∀ a ∈ exS, a.length ≤ 2 := by decide
theorem DropKnown_spec {i : Int} (hn : 2 ^ 63 < n) : Rt (butterylaw21_DropKnown n [.int .i64 i] w) (RB True w) := by
  rw [butterylaw21_DropKnown_eq]
  refine Rt.fin (Rt.cBt (alive_spec (by omega)) trivial fun w2 k2 => ?_)
  refine Rt.alo (k := .i64) [5, 3, 1] 3 rfl rfl (by decide) fun w101 o101 k101 => ?_
  refine Rt.alo (k := .i64) [5, 3, 1] 3 rfl rfl (by decide) fun w102 o102 k102 => ?_
  refine Rt.alo (k := .i64) [5, 3, 1] 3 rfl rfl (by decide) fun w103 o103 k103 => ?_
  refine Rt.alo (k := .i64) [-5, 3] 2 rfl rfl (by decide) fun w104 o104 k104 => ?_
  refine Rt.alo (k := .i64) [-5, 3] 2 rfl rfl (by decide) fun w105 o105 k105 => ?_
  refine Rt.alo (k := .i64) [-5, 3] 2 rfl rfl (by decide) fun w106 o106 k106 => ?_
  refine Rt.alo (k := .i64) [-5, -3] 2 rfl rfl (by decide) fun w107 o107 k107 => ?_
  refine Rt.alo (k := .i64) [5, -3] 2 rfl rfl (by decide) fun w108 o108 k108 => ?_
  refine Rt.alo (k := .i64) [5, -3] 2 rfl rfl (by decide) fun w109 o109 k109 => ?_
  refine Rt.alo (k := .i64) [-5, 3, 1] 3 rfl rfl (by decide) fun w110 o110 k110 => ?_
  have K110 := Kp.rfl' w110
  have K109 := k110.tr K110
  have K108 := k109.tr K109
  have K107 := k108.tr K108
  have K106 := k107.tr K107
  have K105 := k106.tr K106
  have K104 := k105.tr K105
  have K103 := k104.tr K104
  have K102 := k103.tr K103
  have K101 := k102.tr K102
  refine Rt.ale (E := slEl .i64) exL 10 (Rows.one1 rfl ⟨_, _, _, rfl, (o101.bv (by decide)).kp K101⟩ (Rows.one1 rfl ⟨_, _, _, rfl, (o102.bv (by decide)).kp K102⟩ (Rows.one1 rfl ⟨_, _, _, rfl, (o103.bv (by decide)).kp K103⟩ (Rows.one1 rfl ⟨_, _, _, rfl, (o104.bv (by decide)).kp K104⟩ (Rows.one1 rfl ⟨_, _, _, rfl, (o105.bv (by decide)).kp K105⟩ (Rows.one1 rfl ⟨_, _, _, rfl, (o106.bv (by decide)).kp K106⟩ (Rows.one1 rfl ⟨_, _, _, rfl, (o107.bv (by decide)).kp K107⟩ (Rows.one1 rfl ⟨_, _, _, rfl, (o108.bv (by decide)).kp K108⟩ (Rows.one1 rfl ⟨_, _, _, rfl, (o109.bv (by decide)).kp K109⟩ (Rows.one1 rfl ⟨_, _, _, rfl, (o110.bv (by decide)).kp K110⟩ (Rows.nil1))))))))))) rfl (by decide) fun w111 o111 k111 => ?_
  refine Rt.alo (k := .u64) [] 0 rfl rfl (by decide) fun w112 o112 k112 => ?_
  refine Rt.alo (k := .u64) [3] 1 rfl rfl (by decide) fun w113 o113 k113 => ?_
  refine Rt.alo (k := .u64) [4, 2] 2 rfl rfl (by decide) fun w114 o114 k114 => ?_
  refine Rt.alo (k := .u64) [] 0 rfl rfl (by decide) fun w115 o115 k115 => ?_
  refine Rt.alo (k := .u64) [] 0 rfl rfl (by decide) fun w116 o116 k116 => ?_
  refine Rt.alo (k := .u64) [4] 1 rfl rfl (by decide) fun w117 o117 k117 => ?_
  refine Rt.alo (k := .u64) [3] 1 rfl rfl (by decide) fun w118 o118 k118 => ?_
  refine Rt.alo (k := .u64) [3] 1 rfl rfl (by decide) fun w119 o119 k119 => ?_
  refine Rt.alo (k := .u64) [3] 1 rfl rfl (by decide) fun w120 o120 k120 => ?_
  refine Rt.alo (k := .u64) [5] 1 rfl rfl (by decide) fun w121 o121 k121 => ?_
  have K121 := Kp.rfl' w121
  have K120 := k121.tr K121
  have K119 := k120.tr K120
  have K118 := k119.tr K119
  have K117 := k118.tr K118
  have K116 := k117.tr K117
  have K115 := k116.tr K116
  have K114 := k115.tr K115
  have K113 := k114.tr K114
  have K112 := k113.tr K113
  refine Rt.ale (E := slEl .u64) exS 10 (Rows.one1 rfl ⟨_, _, _, rfl, (o112.bv (by decide)).kp K112⟩ (Rows.one1 rfl ⟨_, _, _, rfl, (o113.bv (by decide)).kp K113⟩ (Rows.one1 rfl ⟨_, _, _, rfl, (o114.bv (by decide)).kp K114⟩ (Rows.one1 rfl ⟨_, _, _, rfl, (o115.bv (by decide)).kp K115⟩ (Rows.one1 rfl ⟨_, _, _, rfl, (o116.bv (by decide)).kp K116⟩ (Rows.one1 rfl ⟨_, _, _, rfl, (o117.bv (by decide)).kp K117⟩ (Rows.one1 rfl ⟨_, _, _, rfl, (o118.bv (by decide)).kp K118⟩ (Rows.one1 rfl ⟨_, _, _, rfl, (o119.bv (by decide)).kp K119⟩ (Rows.one1 rfl ⟨_, _, _, rfl, (o120.bv (by decide)).kp K120⟩ (Rows.one1 rfl ⟨_, _, _, rfl, (o121.bv (by decide)).kp K121⟩ (Rows.nil1))))))))))) rfl (by decide) fun w122 o122 k122 => ?_
  refine Rt.ale (E := boEl) exB 10 (Rows.one1 rfl rfl (Rows.one1 rfl rfl (Rows.one1 rfl rfl (Rows.one1 rfl rfl (Rows.one1 rfl rfl (Rows.one1 rfl rfl (Rows.one1 rfl rfl (Rows.one1 rfl rfl (Rows.one1 rfl rfl (Rows.one1 rfl rfl (Rows.nil1))))))))))) rfl (by decide) fun w123 o123 k123 => ?_
  refine Rt.alo (k := .i64) [5] 1 rfl rfl (by decide) fun w124 o124 k124 => ?_
  refine Rt.alo (k := .i64) [5, 3] 2 rfl rfl (by decide) fun w125 o125 k125 => ?_
  refine Rt.alo (k := .i64) [5, 3, 1] 3 rfl rfl (by decide) fun w126 o126 k126 => ?_
  refine Rt.alo (k := .i64) [-5] 1 rfl rfl (by decide) fun w127 o127 k127 => ?_
  refine Rt.alo (k := .i64) [] 0 rfl rfl (by decide) fun w128 o128 k128 => ?_
  refine Rt.alo (k := .i64) [-5, 3] 2 rfl rfl (by decide) fun w129 o129 k129 => ?_
  refine Rt.alo (k := .i64) [-5] 1 rfl rfl (by decide) fun w130 o130 k130 => ?_
  refine Rt.alo (k := .i64) [5] 1 rfl rfl (by decide) fun w131 o131 k131 => ?_
  refine Rt.alo (k := .i64) [5, -3] 2 rfl rfl (by decide) fun w132 o132 k132 => ?_
  refine Rt.alo (k := .i64) [] 0 rfl rfl (by decide) fun w133 o133 k133 => ?_
  have K133 := Kp.rfl' w133
  have K132 := k133.tr K133
  have K131 := k132.tr K132
  have K130 := k131.tr K131
  have K129 := k130.tr K130
  have K128 := k129.tr K129
  have K127 := k128.tr K128
  have K126 := k127.tr K127
  have K125 := k126.tr K126
  have K124 := k125.tr K125
  refine Rt.ale (E := slEl .i64) exW 10 (Rows.one1 rfl ⟨_, _, _, rfl, (o124.bv (by decide)).kp K124⟩ (Rows.one1 rfl ⟨_, _, _, rfl, (o125.bv (by decide)).kp K125⟩ (Rows.one1 rfl ⟨_, _, _, rfl, (o126.bv (by decide)).kp K126⟩ (Rows.one1 rfl ⟨_, _, _, rfl, (o127.bv (by decide)).kp K127⟩ (Rows.one1 rfl ⟨_, _, _, rfl, (o128.bv (by decide)).kp K128⟩ (Rows.one1 rfl ⟨_, _, _, rfl, (o129.bv (by decide)).kp K129⟩ (Rows.one1 rfl ⟨_, _, _, rfl, (o130.bv (by decide)).kp K130⟩ (Rows.one1 rfl ⟨_, _, _, rfl, (o131.bv (by decide)).kp K131⟩ (Rows.one1 rfl ⟨_, _, _, rfl, (o132.bv (by decide)).kp K132⟩ (Rows.one1 rfl ⟨_, _, _, rfl, (o133.bv (by decide)).kp K133⟩ (Rows.nil1))))))))))) rfl (by decide) fun w134 o134 k134 => ?_
  have Z134 := Kp.rfl' w134
  have Z133 := k134.tr Z134
  have Z132 := k133.tr Z133
  have Z131 := k132.tr Z132
  have Z130 := k131.tr Z131
  have Z129 := k130.tr Z130
  have Z128 := k129.tr Z129
  have Z127 := k128.tr Z128
  have Z126 := k127.tr Z127
  have Z125 := k126.tr Z126
  have Z124 := k125.tr Z125
  have Z123 := k124.tr Z124
  have Z122 := k123.tr Z123
  have Z121 := k122.tr Z122
  have Z120 := k121.tr Z121
  have Z119 := k120.tr Z120
  have Z118 := k119.tr Z119
  have Z117 := k118.tr Z118
  have Z116 := k117.tr Z117
  have Z115 := k116.tr Z116
  have Z114 := k115.tr Z115
  have Z113 := k114.tr Z114
  have Z112 := k113.tr Z113
  have Z111 := k112.tr Z112
  have Z110 := k111.tr Z111
  have Z109 := k110.tr Z110
  have Z108 := k109.tr Z109
  have Z107 := k108.tr Z108
  have Z106 := k107.tr Z107
  have Z105 := k106.tr Z106
  have Z104 := k105.tr Z105
  have Z103 := k104.tr Z104
  have Z102 := k103.tr Z103
  have Z101 := k102.tr Z102
  have Z2 := k101.tr Z101
  have kk := k2.tr Z2
  have hA := o111.ev.kp Z111
  have hB := o122.ev.kp Z122
  have hC := o123.ev.kp Z123
  have hD := o134.ev.kp Z134
  refine Rt.cF rfl (Rt.cD (fun h => Rt.endB (by simp) kk) fun h0 => Rt.cD (fun h => Rt.endB (by simp) kk) fun h1 => ?_)
  clear o101 o102 o103 o104 o105 o106 o107 o108 o109 o110 o111 o112 o113 o114 o115 o116 o117 o118 o119 o120 o121 o122 o123 o124 o125 o126 o127 o128 o129 o130 o131 o132 o133 o134
  generalize w134 = wz at *
  have kd := kk.dr
  obtain ⟨a, s, b, z, ea, es, eb, ez, hr, he⟩ := known i.toNat (by omega)
  have hal := exL_ok a (List.mem_of_getElem? ea)
  have hzl := exW_ok z (List.mem_of_getElem? ez)
  have hsl := exS_ok s (List.mem_of_getElem? es)
  have kzd := (Kp.rfl' wz).dr
  refine Rt.ix1 rfl (hA.kp kzd).sl (by omega) (by omega) fun x ad v ex hx hc _ => ?_
  rw [ea] at ex
  injection ex with ex
  subst ex
  obtain ⟨A1, l1, c1, ev1, hb1⟩ := hx
  injection ev1 with ev1 _
  subst ev1
  have hl1 := hb1.len
  (repeat (first | (with_reducible (first | refine Rt.fin ?_ | refine Rt.tL ?_ | refine Rt.tI ?_ | refine Rt.tB ?_ | refine Rt.tS ?_ | refine Rt.tP ?_ | refine Rt.tD ?_ | refine Rt.tM ?_ | refine Rt.tC ?_ | refine Rt.tN ?_ | refine Rt.tA ?_ | refine Rt.tG ?_ | refine Rt.tF ?_ | refine Rt.os ?_ | refine Rt.clS ?_ | refine Rt.jmN ?_ | refine Rt.jbN ?_ | refine Rt.jbE ?_)) | ((with_reducible (first | apply Rt.ld0 | apply Rt.ld1 | apply Rt.ld2 | apply Rt.ld3 | apply Rt.ld4 | apply Rt.ld5)); first | assumption | exact Lc.kp (by assumption) (by assumption)) | ((with_reducible apply Rt.ol); first | assumption | exact cell_kp (by assumption) (by assumption)) | ((with_reducible apply Rt.ckR); focus ((repeat (first | (with_reducible (first | refine Rt.fin ?_ | refine Rt.tL ?_ | refine Rt.tI ?_ | refine Rt.tB ?_ | refine Rt.tS ?_ | refine Rt.tP ?_ | refine Rt.tD ?_ | refine Rt.tM ?_ | refine Rt.tC ?_ | refine Rt.tN ?_ | refine Rt.tA ?_ | refine Rt.tG ?_ | refine Rt.tF ?_ | refine Rt.os ?_ | refine Rt.clS ?_ | refine Rt.jmN ?_ | refine Rt.jbN ?_ | refine Rt.jbE ?_)) | ((with_reducible (first | apply Rt.ld0 | apply Rt.ld1 | apply Rt.ld2 | apply Rt.ld3 | apply Rt.ld4 | apply Rt.ld5)); first | assumption | exact Lc.kp (by assumption) (by assumption)) | ((with_reducible apply Rt.ol); first | assumption | exact cell_kp (by assumption) (by assumption)))); exact Rt.some' rfl))))
  refine Rt.cEv (entries_spec hb1 hal.2 (by omega) (by omega)) fun D d w3 h3 k3 => ?_
  refine Rt.ix1 rfl (hB.kp kzd).sl (by omega) (by omega) fun x ad2 v ex hx hc2 _ => ?_
  rw [es] at ex
  injection ex with ex
  subst ex
  obtain ⟨A2, l2, c2, ev2, hb2⟩ := hx
  injection ev2 with ev2 _
  subst ev2
  have hl2 := hb2.len
  have hc2' := cell_kp hc2 k3
  (repeat (first | (with_reducible (first | refine Rt.fin ?_ | refine Rt.tL ?_ | refine Rt.tI ?_ | refine Rt.tB ?_ | refine Rt.tS ?_ | refine Rt.tP ?_ | refine Rt.tD ?_ | refine Rt.tM ?_ | refine Rt.tC ?_ | refine Rt.tN ?_ | refine Rt.tA ?_ | refine Rt.tG ?_ | refine Rt.tF ?_ | refine Rt.os ?_ | refine Rt.clS ?_ | refine Rt.jmN ?_ | refine Rt.jbN ?_ | refine Rt.jbE ?_)) | ((with_reducible (first | apply Rt.ld0 | apply Rt.ld1 | apply Rt.ld2 | apply Rt.ld3 | apply Rt.ld4 | apply Rt.ld5)); first | assumption | exact Lc.kp (by assumption) (by assumption)) | ((with_reducible apply Rt.ol); first | assumption | exact cell_kp (by assumption) (by assumption)) | ((with_reducible apply Rt.ckR); focus ((repeat (first | (with_reducible (first | refine Rt.fin ?_ | refine Rt.tL ?_ | refine Rt.tI ?_ | refine Rt.tB ?_ | refine Rt.tS ?_ | refine Rt.tP ?_ | refine Rt.tD ?_ | refine Rt.tM ?_ | refine Rt.tC ?_ | refine Rt.tN ?_ | refine Rt.tA ?_ | refine Rt.tG ?_ | refine Rt.tF ?_ | refine Rt.os ?_ | refine Rt.clS ?_ | refine Rt.jmN ?_ | refine Rt.jbN ?_ | refine Rt.jbE ?_)) | ((with_reducible (first | apply Rt.ld0 | apply Rt.ld1 | apply Rt.ld2 | apply Rt.ld3 | apply Rt.ld4 | apply Rt.ld5)); first | assumption | exact Lc.kp (by assumption) (by assumption)) | ((with_reducible apply Rt.ol); first | assumption | exact cell_kp (by assumption) (by assumption)))); exact Rt.some' rfl))))
  refine Rt.ix1 rfl (hC.kp kzd).sl (by omega) (by omega) fun x ad3 v ex hx hc3 _ => ?_
  rw [eb] at ex
  injection ex with ex
  subst ex
  injection hx with hx _
  subst hx
  have hc3' := cell_kp hc3 k3
  (repeat (first | (with_reducible (first | refine Rt.fin ?_ | refine Rt.tL ?_ | refine Rt.tI ?_ | refine Rt.tB ?_ | refine Rt.tS ?_ | refine Rt.tP ?_ | refine Rt.tD ?_ | refine Rt.tM ?_ | refine Rt.tC ?_ | refine Rt.tN ?_ | refine Rt.tA ?_ | refine Rt.tG ?_ | refine Rt.tF ?_ | refine Rt.os ?_ | refine Rt.clS ?_ | refine Rt.jmN ?_ | refine Rt.jbN ?_ | refine Rt.jbE ?_)) | ((with_reducible (first | apply Rt.ld0 | apply Rt.ld1 | apply Rt.ld2 | apply Rt.ld3 | apply Rt.ld4 | apply Rt.ld5)); first | assumption | exact Lc.kp (by assumption) (by assumption)) | ((with_reducible apply Rt.ol); first | assumption | exact cell_kp (by assumption) (by assumption)) | ((with_reducible apply Rt.ckR); focus ((repeat (first | (with_reducible (first | refine Rt.fin ?_ | refine Rt.tL ?_ | refine Rt.tI ?_ | refine Rt.tB ?_ | refine Rt.tS ?_ | refine Rt.tP ?_ | refine Rt.tD ?_ | refine Rt.tM ?_ | refine Rt.tC ?_ | refine Rt.tN ?_ | refine Rt.tA ?_ | refine Rt.tG ?_ | refine Rt.tF ?_ | refine Rt.os ?_ | refine Rt.clS ?_ | refine Rt.jmN ?_ | refine Rt.jbN ?_ | refine Rt.jbE ?_)) | ((with_reducible (first | apply Rt.ld0 | apply Rt.ld1 | apply Rt.ld2 | apply Rt.ld3 | apply Rt.ld4 | apply Rt.ld5)); first | assumption | exact Lc.kp (by assumption) (by assumption)) | ((with_reducible apply Rt.ol); first | assumption | exact cell_kp (by assumption) (by assumption)))); exact Rt.some' rfl))))
  have hkl : ∀ x ∈ a.map entX, x.key.length ≤ 2 ^ 38 ∧ x.val.length ≤ 2 ^ 38 := fun x hx => by
    obtain ⟨y, _, rfl⟩ := List.mem_map.1 hx
    exact ⟨by show [107].length ≤ _; decide, by show [].length ≤ _; decide⟩
  refine Rt.cEe (Keep_spec h3 (hb2.kp k3) hkl (by rw [List.length_map]; omega) (by omega) (by omega) (by omega)) fun F f w4 h4 k4 => ?_
  have e1 : keepR s b (a.map entX) = z.map entX := by unfold keepR; rw [if_pos hr, he]
  have e2 : keepE (a.map entX) = 0 := by unfold keepE; rw [if_pos hr]
  rw [e1] at h4 ⊢
  rw [e2]
  refine Rt.cI (num_run n _ _) fun w5 k5 => Rt.cT rfl ?_
  have k35 := (k3.tr k4).tr k5
  refine Rt.ix1 rfl ((hD.kp kzd).kp k35).sl (by omega) (by omega) fun x ad4 v ex hx hc4 _ => ?_
  rw [ez] at ex
  injection ex with ex
  subst ex
  obtain ⟨A4, l4, c4, ev4, hb4⟩ := hx
  injection ev4 with ev4 _
  subst ev4
  have hl4 := hb4.len
  (repeat (first | (with_reducible (first | refine Rt.fin ?_ | refine Rt.tL ?_ | refine Rt.tI ?_ | refine Rt.tB ?_ | refine Rt.tS ?_ | refine Rt.tP ?_ | refine Rt.tD ?_ | refine Rt.tM ?_ | refine Rt.tC ?_ | refine Rt.tN ?_ | refine Rt.tA ?_ | refine Rt.tG ?_ | refine Rt.tF ?_ | refine Rt.os ?_ | refine Rt.clS ?_ | refine Rt.jmN ?_ | refine Rt.jbN ?_ | refine Rt.jbE ?_)) | ((with_reducible (first | apply Rt.ld0 | apply Rt.ld1 | apply Rt.ld2 | apply Rt.ld3 | apply Rt.ld4 | apply Rt.ld5)); first | assumption | exact Lc.kp (by assumption) (by assumption)) | ((with_reducible apply Rt.ol); first | assumption | exact cell_kp (by assumption) (by assumption)) | ((with_reducible apply Rt.ckR); focus ((repeat (first | (with_reducible (first | refine Rt.fin ?_ | refine Rt.tL ?_ | refine Rt.tI ?_ | refine Rt.tB ?_ | refine Rt.tS ?_ | refine Rt.tP ?_ | refine Rt.tD ?_ | refine Rt.tM ?_ | refine Rt.tC ?_ | refine Rt.tN ?_ | refine Rt.tA ?_ | refine Rt.tG ?_ | refine Rt.tF ?_ | refine Rt.os ?_ | refine Rt.clS ?_ | refine Rt.jmN ?_ | refine Rt.jbN ?_ | refine Rt.jbE ?_)) | ((with_reducible (first | apply Rt.ld0 | apply Rt.ld1 | apply Rt.ld2 | apply Rt.ld3 | apply Rt.ld4 | apply Rt.ld5)); first | assumption | exact Lc.kp (by assumption) (by assumption)) | ((with_reducible apply Rt.ol); first | assumption | exact cell_kp (by assumption) (by assumption)))); exact Rt.some' rfl))))
  refine Rt.cEv (entries_spec hb4 hzl.2 (by omega) (by omega)) fun G g w6 h6 k6 => ?_
  refine Rt.cBt (SameEntries_spec ((h4.kp k5).kp k6) h6 (by rw [List.length_map]; omega) (by rw [List.length_map]; omega)) rfl fun w7 k7 => ?_
  exact Rt.endB (by simp) (((kd.tr k35).tr k6).tr k7)
end
end Go.Proofs.Ytoilmnplocfipaa.Dr
