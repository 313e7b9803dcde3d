/- What the big-step reading computes of one operation is what the machine does. -/
import Derived.Test.YtdcdgmiojlldaaaB1
import Derived.Laws.Sem
namespace Go.Proofs.Ytdcdgmiojlldaaa.Big
open Go
set_option linter.unusedVariables false
set_option linter.unusedSimpArgs false

/-- What an operation comes to. -/
def ResOk (P : Program) (res : Result Next) (v : Value) (w' : World) : Prop :=
  match res with
  | .ok (.value u) w1 => u = v ∧ w1 = w'
  | .ok .skip w1 => v = undef ∧ w1 = w'
  | .ok (.enter f args) w1 => Calls P f args w1 fun e w2 => e = .returned v ∧ w2 = w'
  | _ => False
theorem ResOk.wp {P : Program} {o : Oper} {a : Act} {w w' : World} {v : Value} (h : ResOk P ((execOp a.eval o).run P w) v w') {next : Act → World → Prop} {Q : Exit → Act → World → Prop}
    (hn : next (a.put o.dst v) w') : o.wp P a w next Q := by
  unfold Oper.wp
  generalize (execOp a.eval o).run P w = r at h ⊢
  unfold ResOk at h
  split at h
  · obtain ⟨rfl, rfl⟩ := h; exact hn
  · obtain ⟨rfl, rfl⟩ := h; exact hn
  · rename_i f args w1
    refine Calls.mono h fun e w2 he => ?_
    obtain ⟨rfl, rfl⟩ := he
    exact hn
  · exact h.elim

def OOk (P : Program) (O : Orc) : Prop := ∀ f run, look f O = some run → ∀ vs w rs w', run vs w = some (rs, w') → ResOk P ((callFunc f vs.toArray).run P w) (unL rs) w'

/-- What a table's row says of a type. -/
def okT (P : Program) (t : TypeId) (i : TI) : Prop :=
  (match i.d with
   | .int k => P.underlying t = some (.int k)
   | .bool => P.underlying t = some .bool
   | .str => P.underlying t = some .string
   | .sl e sz => P.underlying t = some (.slice e) ∧ (P.info? e).map (·.size) = some sz
   | .arr n sz => ∃ e, P.underlying t = some (.array n e) ∧ (P.info? e).map (·.size) = some sz ∧ 2 ≤ n
   | .i2 k => ∃ e, P.underlying t = some (.array 2 e) ∧ P.underlying e = some (.int k) ∧ (P.info? e).map (·.size) = some 1
   | .ptr => ∃ e, P.underlying t = some (.pointer e)
   | .map => ∃ k e, P.underlying t = some (.map k e)
   | _ => True) ∧
  (match i.d with
   | .tup _ => True
   | _ => match i.kd with
     | .lf _ => (match P.underlying t with | some (.struct _) => False | some (.array _ _) => False | some _ => True | none => False) ∧ (P.info? t).map (·.size) = some 1
     | .agg ls => (match P.underlying t with | some (.struct _) => True | some (.array _ _) => True | _ => False) ∧ (P.info? t).map (·.size) = some ls.length)
def TOk (P : Program) (T : TT) : Prop := ∀ t i, look t T = some i → okT P t i

structure EnvOk (N : Nat) (e : Env) (a : Act) : Prop where
  size : a.tmps.size = N
  defers : a.defers = []
  get : ∀ t v, look t e = some v → a.tmps[t]? = some v

/-! ### Taking the words apart -/
section
variable {α β : Type} {r : α}
theorem optL_inv {x : Option β} {f : β → Option α} (h : optL x f = some r) : ∃ y, x = some y ∧ f y = some r := by
  cases x with
  | none => simp [optL, bump] at h
  | some y => exact ⟨y, rfl, by simpa [optL, bump] using h⟩
theorem opt_inv {x : Option β} {f : β → Option α} (h : opt x f = some r) : ∃ y, x = some y ∧ f y = some r := by
  cases x with
  | none => simp [opt] at h
  | some y => exact ⟨y, rfl, by simpa [opt] using h⟩
theorem cl_inv {x : Option (List Value × World)} {f : List Value → World → Option α} (h : cl x f = some r) : ∃ vs w, x = some (vs, w) ∧ f vs w = some r := by
  cases x with
  | none => simp [cl] at h
  | some y => obtain ⟨vs, w⟩ := y; exact ⟨vs, w, rfl, by simpa [cl] using h⟩
theorem tI_inv {k : IntKind} {v : Value} {f : Int → Option α} (h : tI k v f = some r) : ∃ n, v = .int k n ∧ f n = some r := by
  unfold tI at h; split at h
  · split at h
    · rename_i e; subst e; exact ⟨_, rfl, h⟩
    · cases h
  · cases h
theorem tIL_inv {k : IntKind} {v : Value} {f : Int → Option α} (h : tIL k v f = some r) : ∃ n, v = .int k n ∧ f n = some r := tI_inv (by simpa [tIL, tI, bump] using h)
theorem tB_inv {v : Value} {f : Bool → Option α} (h : tB v f = some r) : ∃ n, v = .bool n ∧ f n = some r := by
  unfold tB at h; split at h
  · exact ⟨_, rfl, h⟩
  · cases h
theorem tBL_inv {v : Value} {f : Bool → Option α} (h : tBL v f = some r) : ∃ n, v = .bool n ∧ f n = some r := tB_inv (by simpa [tBL, tB, bump] using h)
theorem tS_inv {v : Value} {f : ByteArray → Option α} (h : tS v f = some r) : ∃ n, v = .string n ∧ f n = some r := by
  unfold tS at h; split at h
  · exact ⟨_, rfl, h⟩
  · cases h
theorem tSL_inv {v : Value} {f : ByteArray → Option α} (h : tSL v f = some r) : ∃ n, v = .string n ∧ f n = some r := tS_inv (by simpa [tSL, tS, bump] using h)
theorem tL_inv {v : Value} {f : Option Addr → Nat → Nat → Option α} (h : tL v f = some r) : ∃ a l c, v = .slice a l c ∧ f a l c = some r := by
  unfold tL at h; split at h
  · exact ⟨_, _, _, rfl, h⟩
  · cases h
theorem tLL_inv {v : Value} {f : Option Addr → Nat → Nat → Option α} (h : tLL v f = some r) : ∃ a l c, v = .slice a l c ∧ f a l c = some r := tL_inv (by simpa [tLL, tL, bump] using h)
theorem tP_inv {v : Value} {f : Option Addr → Option α} (h : tP v f = some r) : ∃ p, v = .pointer p ∧ f p = some r := by
  unfold tP at h; split at h
  · exact ⟨_, rfl, h⟩
  · cases h
theorem tPL_inv {v : Value} {f : Option Addr → Option α} (h : tPL v f = some r) : ∃ p, v = .pointer p ∧ f p = some r := tP_inv (by simpa [tPL, tP, bump] using h)
theorem tD_inv {v : Value} {f : Addr → Option α} (h : tD v f = some r) : ∃ p, v = .pointer (some p) ∧ f p = some r := by
  unfold tD at h; split at h
  · exact ⟨_, rfl, h⟩
  · cases h
theorem tM_inv {v : Value} {f : Option Nat → Option α} (h : tM v f = some r) : ∃ p, v = .map p ∧ f p = some r := by
  unfold tM at h; split at h
  · exact ⟨_, rfl, h⟩
  · cases h
theorem tF_inv {v : Value} {f : Fn → Array Value → Array Value → Option α} (h : tF v f = some r) : ∃ g a b, v = .func g a b ∧ f g a b = some r := by
  unfold tF at h; split at h
  · exact ⟨_, _, _, rfl, h⟩
  · cases h
theorem tFL_inv {v : Value} {f : Fn → Array Value → Array Value → Option α} (h : tFL v f = some r) : ∃ g a b, v = .func g a b ∧ f g a b = some r := tF_inv (by simpa [tFL, tF, bump] using h)
theorem tGL_inv {g : Fn} {f : FuncId → Option α} (h : tGL g f = some r) : ∃ i, g = .func i ∧ f i = some r := by
  cases g <;> first | exact ⟨_, rfl, h⟩ | cases h
theorem tA_inv {v : Value} {f : List Value → Option α} (h : tA v f = some r) : ∃ cs : List Value, v = .agg cs.toArray ∧ f cs = some r := by
  unfold tA at h; split at h
  · rename_i cs; exact ⟨cs.toList, by simp, h⟩
  · cases h
theorem tAL_inv {v : Value} {f : List Value → Option α} (h : tAL v f = some r) : ∃ cs : List Value, v = .agg cs.toArray ∧ f cs = some r := tA_inv (by simpa [tAL, tA, bump] using h)
theorem tC_inv {vs : List Value} {f : Value → List Value → Option α} (h : tC vs f = some r) : ∃ v us, vs = v :: us ∧ f v us = some r := by
  cases vs with
  | nil => cases h
  | cons v us => exact ⟨v, us, rfl, h⟩
theorem tN_inv {vs : List Value} {x : Option α} (h : tN vs x = some r) : vs = [] ∧ x = some r := by
  cases vs with
  | nil => exact ⟨rfl, h⟩
  | cons v us => cases h
theorem rn_inv {P : Program} {s : Sem Value} {w : World} {f : Value → World → Option α} (h : rn P s w f = some r) : ∃ v w', s.run P w = .ok v w' ∧ f v w' = some r := by
  unfold rn at h; split at h
  · rename_i v w' e; exact ⟨v, w', e, h⟩
  · cases h
theorem tyL_inv {l : Lf} {v : Value} {f : Value → Option α} (h : tyL l v f = some r) : f v = some r ∧ v.oneCell' = true := by
  cases l <;> simp only [tyL] at h
  · obtain ⟨n, rfl, h'⟩ := tI_inv h; exact ⟨h', rfl⟩
  · obtain ⟨n, rfl, h'⟩ := tB_inv h; exact ⟨h', rfl⟩
  · obtain ⟨n, rfl, h'⟩ := tS_inv h; exact ⟨h', rfl⟩
  · obtain ⟨a, l, c, rfl, h'⟩ := tL_inv h; exact ⟨h', rfl⟩
  · obtain ⟨n, rfl, h'⟩ := tP_inv h; exact ⟨h', rfl⟩
  · obtain ⟨n, rfl, h'⟩ := tM_inv h; exact ⟨h', rfl⟩
  · obtain ⟨a, l, c, rfl, h'⟩ := tF_inv h; exact ⟨h', rfl⟩
  · obtain ⟨n, rfl, h'⟩ := tD_inv h; exact ⟨h', rfl⟩
theorem tyLs_inv : ∀ (ls : List Lf) {vs : List Value} {f : List Value → Option α}, tyLs ls vs f = some r → f vs = some r
  | [], vs, f, h => by obtain ⟨rfl, h'⟩ := tN_inv h; exact h'
  | l :: ls, vs, f, h => by
    obtain ⟨v, us, rfl, h'⟩ := tC_inv h
    have h2 := (tyL_inv h').1
    exact tyLs_inv ls (f := fun cs => f (v :: cs)) h2
theorem ty_inv {k : Kd} {v : Value} {f : Value → Option α} (h : ty k v f = some r) : f v = some r := by
  cases k with
  | lf l => exact (tyL_inv h).1
  | agg ls =>
    simp only [ty] at h
    obtain ⟨cs, rfl, h'⟩ := tA_inv h
    exact tyLs_inv ls h'
theorem tys_inv : ∀ (ks : List Kd) {vs : List Value} {f : List Value → Option α}, tys ks vs f = some r → f vs = some r
  | [], vs, f, h => by obtain ⟨rfl, h'⟩ := tN_inv h; exact h'
  | k :: ks, vs, f, h => by
    obtain ⟨v, us, rfl, h'⟩ := tC_inv h
    have h2 := ty_inv h'
    exact tys_inv ks (f := fun cs => f (v :: cs)) h2
theorem tys_len : ∀ (ks : List Kd) {vs : List Value} {f : List Value → Option α}, tys ks vs f = some r → vs.length = ks.length
  | [], vs, f, h => by obtain ⟨rfl, h'⟩ := tN_inv h; rfl
  | k :: ks, vs, f, h => by
    obtain ⟨v, us, rfl, h'⟩ := tC_inv h
    have h2 := ty_inv h'
    have := tys_len ks (f := fun cs => f (v :: cs)) h2
    simp [this]
theorem outs_many {ks : List Kd} {vs : List Value} {f : Value → Option α} (hk : ks.length ≠ 1) (h : tys ks vs (fun us => f (.tuple us.toArray)) = some r) : f (unL vs) = some r := by
  have hv := tys_inv ks h
  have hl := tys_len ks h
  match vs, hl, hv with
  | [], _, hv => exact hv
  | [v], hl, _ => exact absurd hl.symm hk
  | v1 :: v2 :: vs, _, hv => exact hv
theorem outs_inv {ks : List Kd} {vs : List Value} {f : Value → Option α} (h : outs ks vs f = some r) : f (unL vs) = some r := by
  match ks, h with
  | [], h => exact outs_many (ks := []) (by simp) h
  | [kd], h =>
    obtain ⟨v, us, rfl, h'⟩ := tC_inv (by simpa [outs] using h)
    obtain ⟨rfl, h2⟩ := tN_inv (ty_inv h')
    exact h2
  | k1 :: k2 :: ks, h => exact outs_many (ks := k1 :: k2 :: ks) (by simp) h

/-! ### Operands -/
variable {e : Env} {a : Act} {N : Nat}
theorem vl_inv (he : EnvOk N e a) {x : Operand} {f : Value → Option α} (h : vl x e f = some r) : f (a.eval x) = some r ∧ rho e x = a.eval x := by
  cases x with
  | tmp t =>
    obtain ⟨v, hv, h⟩ := optL_inv h
    have := he.get t v hv
    have e1 : a.eval (.tmp t) = v := by simp [Act.eval, this]
    exact ⟨by rw [e1]; exact h, by rw [e1]; simp [rho, hv]⟩
  | const v => exact ⟨h, rfl⟩
  | func g => exact ⟨h, rfl⟩
  | global g => exact ⟨h, rfl⟩
theorem vls_inv (he : EnvOk N e a) : ∀ (xs : List Operand) {f : List Value → Option α}, vls xs e f = some r → f (xs.map a.eval) = some r ∧ ∀ x ∈ xs, rho e x = a.eval x
  | [], f, h => ⟨h, by simp⟩
  | x :: xs, f, h => by
    obtain ⟨h1, h2⟩ := vl_inv he h
    obtain ⟨h3, h4⟩ := vls_inv he xs (f := fun vs => f (a.eval x :: vs)) h1
    exact ⟨h3, by simpa using ⟨h2, h4⟩⟩
end

/-! ### Types at the machine -/
section
variable {P : Program} {T : TT} (hT : TOk P T) {w : World}
theorem run_und {t : TypeId} {d : TypeDesc} (h : P.underlying t = some d) : (underlying t).run P w = .ok d w := by
  simp [underlying, h]
theorem run_size {t : TypeId} {n : Nat} (h : (P.info? t).map (·.size) = some n) : (sizeOf t).run P w = .ok n w := by
  obtain ⟨i, hi, rfl⟩ := Option.map_eq_some_iff.1 h
  simp [sizeOf, typeInfo, hi]
include hT
theorem dOf_inv {t : TypeId} {d : D} (hd : dOf T t = d) (hne : d ≠ .other) : ∃ i, look t T = some i ∧ i.d = d ∧ okT P t i := by
  unfold dOf at hd
  cases h : look t T with
  | none => rw [h] at hd; exact absurd hd.symm hne
  | some i => rw [h] at hd; exact ⟨i, rfl, hd, hT t i h⟩
theorem sl_inv {t : TypeId} {e sz : Nat} (hd : dOf T t = .sl e sz) : P.underlying t = some (.slice e) ∧ (P.info? e).map (·.size) = some sz := by
  obtain ⟨i, _, hi, ok⟩ := dOf_inv hT hd (by simp)
  have := ok.1; rw [hi] at this; exact this
theorem arr_inv {t : TypeId} {n sz : Nat} (hd : dOf T t = .arr n sz) : ∃ e, P.underlying t = some (.array n e) ∧ (P.info? e).map (·.size) = some sz ∧ 2 ≤ n := by
  obtain ⟨i, _, hi, ok⟩ := dOf_inv hT hd (by simp)
  have := ok.1; rw [hi] at this; exact this
theorem str_inv {t : TypeId} (hd : dOf T t = .str) : P.underlying t = some .string := by
  obtain ⟨i, _, hi, ok⟩ := dOf_inv hT hd (by simp)
  have := ok.1; rw [hi] at this; exact this
theorem int_inv {t : TypeId} {k : IntKind} (hd : dOf T t = .int k) : P.underlying t = some (.int k) := by
  obtain ⟨i, _, hi, ok⟩ := dOf_inv hT hd (by simp)
  have := ok.1; rw [hi] at this; exact this
end
end Go.Proofs.Ytdcdgmiojlldaaa.Big
