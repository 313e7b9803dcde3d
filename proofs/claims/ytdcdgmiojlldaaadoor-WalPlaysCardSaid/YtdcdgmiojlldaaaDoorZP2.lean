/- packed by slim.py -/
import Derived.Laws.BytesString
import Derived.Test.YtdcdgmiojlldaaaDoorZP1
/- What the big-step reading computes of one operation is what the machine does: memory, arithmetic, calls. -/
namespace Go.Proofs.YtdcdgmiojlldaaaDoor.Big
open Go
set_option linter.unusedVariables false
set_option linter.unusedSimpArgs false
section
variable {α : Type} {r : α} {P : Program} {T : TT} {w : World}
theorem kdOf_inv (hT : TOk P T) {t : TypeId} {k : Kd} (h : kdOf T t = some k) :
    (match k with
     | .lf _ => (match P.underlying t with | some (.struct _) => False | some (.array _ _) => False | some _ => True | none => False) ∧ (P.info? t).map (·.size) = some 1
     | .agg ls => (match P.underlying t with | some (.struct _) => True | some (.array _ _) => True | _ => False) ∧ (P.info? t).map (·.size) = some ls.length) := by
  unfold kdOf at h
  split at h
  · cases h
  · rename_i i hn hi
    have ok := (hT t i hi).2
    simp only [Option.some.injEq] at h
    obtain ⟨d, kd⟩ := i
    simp only at h
    subst h
    cases d <;> first | exact (hn _ _ rfl).elim | (cases kd <;> exact ok)
  · cases h
theorem isAgg_lf {t : TypeId} (h : match P.underlying t with | some (.struct _) => False | some (.array _ _) => False | some _ => True | none => False) : (isAgg t).run P w = .ok false w := by
  cases hu : P.underlying t with
  | none => rw [hu] at h; exact h.elim
  | some d => rw [hu] at h; cases d <;> simp_all [isAgg, run_und hu]
theorem isAgg_agg {t : TypeId} (h : match P.underlying t with | some (.struct _) => True | some (.array _ _) => True | _ => False) : (isAgg t).run P w = .ok true w := by
  cases hu : P.underlying t with
  | none => rw [hu] at h; exact h.elim
  | some d => rw [hu] at h; cases d <;> simp_all [isAgg, run_und hu]
theorem ldLs_inv (a : Addr) : ∀ (ls : List Lf) (i : Nat) {f : List Value → Option α}, ldLs w a ls i f = some r →
    ∃ vs : List Value, f vs = some r ∧ vs.length = ls.length ∧ ∀ acc : Array Value, (loadCellsFrom a i ls.length acc).run P w = .ok (acc ++ vs.toArray) w
  | [], i, f, h => ⟨[], h, rfl, fun acc => by simp [loadCellsFrom]⟩
  | l :: ls, i, f, h => by
    obtain ⟨v, hv, h⟩ := opt_inv h
    obtain ⟨h, _⟩ := tyL_inv h
    obtain ⟨vs, h1, h2, h3⟩ := ldLs_inv a ls (i + 1) (f := fun cs => f (v :: cs)) h
    refine ⟨v :: vs, h1, by simp [h2], fun acc => ?_⟩
    simp only [List.length_cons, loadCellsFrom, Sem.run_bind, run_load, hv, Result.andThen_ok, h3]
    simp
theorem ldK_inv (hT : TOk P T) {t : TypeId} {k : Kd} (hk : kdOf T t = some k) {a : Addr} {f : Value → Option α} (h : ldK k w a f = some r) :
    ∃ v, f v = some r ∧ (loadVar t a).run P w = .ok v w := by
  have hi := kdOf_inv hT hk
  cases k with
  | lf l =>
    simp only [ldK] at h
    obtain ⟨v, hv, h⟩ := opt_inv h
    obtain ⟨h, _⟩ := tyL_inv h
    exact ⟨v, h, by simp [loadVar, isAgg_lf hi.1, hv]⟩
  | agg ls =>
    simp only [ldK] at h
    obtain ⟨vs, h1, h2, h3⟩ := ldLs_inv (P := P) a ls 0 h
    refine ⟨_, h1, ?_⟩
    have := h3 #[]
    simp [loadVar, isAgg_agg hi.1, run_size hi.2, loadCells, this]
theorem stC_inv {a : Addr} {v : Value} {f : World → Option α} (hv : v.oneCell' = true) (h : stC w a v f = some r) : ∃ w', f w' = some r ∧ (store a v).run P w = .ok () w' := by
  unfold stC at h
  obtain ⟨u, hu, h⟩ := opt_inv h
  cases hf : w.frozen? a with
  | true => rw [hf] at h; cases h
  | false =>
    rw [hf] at h
    exact ⟨_, h, by rw [run_store P w a v .plain hv, hu]; simp [hf]⟩
theorem oneC_eq (v : Value) : oneC v = v.oneCell' := by cases v <;> rfl
theorem stLs_inv (a : Addr) : ∀ (vs : List Value) (i : Nat) (w : World) {f : World → Option α}, stLs a vs i w f = some r → ∃ w', f w' = some r ∧ (storeCells a vs i).run P w = .ok () w'
  | [], i, w, f, h => ⟨w, h, by simp [storeCells]⟩
  | v :: vs, i, w, f, h => by
    have h : cond (oneC v) (stC w (a.add i) v fun w' => stLs a vs (i + 1) w' f) none = some r := h
    cases hv : oneC v with
    | false => rw [hv] at h; cases h
    | true =>
      have h : stC w (a.add i) v (fun w' => stLs a vs (i + 1) w' f) = some r := by rw [hv] at h; exact h
      obtain ⟨w1, h1, h2⟩ := stC_inv (P := P) (by rw [← oneC_eq]; exact hv) h
      obtain ⟨w2, h3, h4⟩ := stLs_inv a vs (i + 1) w1 h1
      exact ⟨w2, h3, by simp [storeCells, h2, h4]⟩
theorem st_lf (hT : TOk P T) {t : TypeId} {l : Lf} (hk : kdOf T t = some (.lf l)) {a : Addr} {u : Value} {f : World → Option α} (h : stLs a [u] 0 w f = some r) :
    ∃ w', f w' = some r ∧ (storeVar t a u).run P w = .ok () w' := by
  have hi := kdOf_inv hT hk
  have hc : oneC u = true := by
    cases hv : oneC u with
    | true => rfl
    | false =>
      have h : cond (oneC u) (stC w (a.add 0) u fun w' => stLs a [] 1 w' f) none = some r := h
      rw [hv] at h; cases h
  obtain ⟨w', h1, h2⟩ := stLs_inv (P := P) a [u] 0 w h
  have hcs : u.cells = #[u] := by cases u <;> first | rfl | simp [oneC] at hc
  exact ⟨w', h1, by simp [storeVar, run_size hi.2, hcs, h2]⟩
theorem st_agg (hT : TOk P T) {t : TypeId} {ls : List Lf} (hk : kdOf T t = some (.agg ls)) {a : Addr} {cs : List Value} (hl : cs.length = ls.length) {f : World → Option α} (h : stLs a cs 0 w f = some r) :
    ∃ w', f w' = some r ∧ (storeVar t a (.agg cs.toArray)).run P w = .ok () w' := by
  have hi := kdOf_inv hT hk
  obtain ⟨w', h1, h2⟩ := stLs_inv (P := P) a cs 0 w h
  exact ⟨w', h1, by simp [storeVar, run_size hi.2, Value.cells, hl, h2]⟩
theorem ixA_inv {A : Option Addr} {l : Nat} {i : Int} {sz : Nat} {f : Addr → Option α} (h : ixA A l i sz f = some r) : ∃ a, A = some a ∧ (0 ≤ i ∧ i < l) ∧ f (a.add (i.toNat * sz)) = some r := by
  unfold ixA at h
  split at h
  · split at h
    · rename_i a hi; exact ⟨a, rfl, hi, h⟩
    · cases h
  · cases h
theorem ixR_inv {a : Addr} {l : Nat} {i : Int} {sz : Nat} {f : Addr → Option α} (h : ixR a l i sz f = some r) : (0 ≤ i ∧ i < l) ∧ f (a.add (i.toNat * sz)) = some r := by
  rw [ixR_eq] at h
  unfold ixR0 at h
  split at h
  · rename_i hi; exact ⟨hi, h⟩
  · cases h
theorem cutS_inv {A : Option Addr} {c : Nat} {lo hi : Int} {sz : Nat} {f : Option Addr → Nat → Nat → Option α} (h : cutS A c lo hi sz f = some r) :
    (0 ≤ lo ∧ lo ≤ hi ∧ hi ≤ c) ∧ f (if c = lo.toNat then A else A.map (·.add (lo.toNat * sz))) (hi.toNat - lo.toNat) (c - lo.toNat) = some r := by
  unfold cutS at h
  split at h
  · rename_i hi; exact ⟨hi, h⟩
  · cases h
theorem cut3_inv {A : Option Addr} {c : Nat} {lo hi mx : Int} {sz : Nat} {f : Option Addr → Nat → Nat → Option α} (h : cut3 A c lo hi mx sz f = some r) :
    (0 ≤ lo ∧ lo ≤ hi ∧ hi ≤ mx ∧ mx ≤ c) ∧ f (if mx.toNat = lo.toNat then A else A.map (·.add (lo.toNat * sz))) (hi.toNat - lo.toNat) (mx.toNat - lo.toNat) = some r := by
  unfold cut3 at h
  split at h
  · rename_i hi; exact ⟨hi, h⟩
  · cases h
theorem run_bound (k : IntKind) (i : Int) (y : Nat) (code : BoundsCode) (h : 0 ≤ i ∧ i ≤ y) : (Instr.sliceBound (.int k i) y code).run P w = .ok i.toNat w := by
  simp [Instr.sliceBound, asIntOf, h]
theorem rdB_inv (a : Addr) : ∀ (n i : Nat) (l : List UInt8), rdB w a n i = some l → ∃ ns : List Int, l = ns.map (fun n => UInt8.ofNat n.toNat) ∧ (∀ acc : Array Value, (loadCellsFrom a i n acc).run P w = .ok (acc ++ (ns.map (Value.int .u8)).toArray) w)
  | 0, i, l, h => by
    have h : some [] = some l := h
    injection h with h; subst h
    exact ⟨[], rfl, fun acc => by simp [loadCellsFrom]⟩
  | n + 1, i, l, h => by
    obtain ⟨v, hv, h⟩ := opt_inv h
    obtain ⟨x, rfl, h⟩ := tI_inv h
    obtain ⟨l', hl', h⟩ := opt_inv h
    injection h with h; subst h
    obtain ⟨ns, h1, h2⟩ := rdB_inv a n (i + 1) l' hl'
    refine ⟨x :: ns, by simp [h1], fun acc => ?_⟩
    simp only [loadCellsFrom, Sem.run_bind, run_load, hv, Result.andThen_ok, h2]; simp
theorem foldl_push_b : ∀ (ns : List Int) (s : ByteArray), ns.foldl (fun r n => r.push (UInt8.ofNat n.toNat)) s = ⟨s.data ++ (ns.map fun n => UInt8.ofNat n.toNat).toArray⟩
  | [], s => by simp
  | n :: ns, s => by
    rw [List.foldl_cons, foldl_push_b ns]
    simp [ByteArray.push]
theorem strOf_inv {A : Option Addr} {l c : Nat} {s : ByteArray} (h : strOf w A l = some s) : (Conv.bytesToString (.slice A l c)).run P w = .ok (.string s) w := by
  cases A with
  | none =>
    simp only [strOf, Option.some.injEq] at h
    subst h
    simp [Conv.bytesToString]
  | some a =>
    simp only [strOf] at h
    obtain ⟨bs, hb, h⟩ := opt_inv h
    injection h with h; subst h
    obtain ⟨ns, h1, h2⟩ := rdB_inv (P := P) a l 0 bs hb
    have := h2 #[]
    rw [run_bytesToString w a l c ns (by simpa [loadCells] using this), foldl_push_b, h1]
    simp [ByteArray.empty, ByteArray.emptyWithCapacity]
    rfl
/-! ### The operations -/
variable {O : Orc} {N : Nat} {e : Env} {a : Act} {o : Oper}
theorem frc_inv {v : Value} {f : Value → Option α} (h : frc v f = some r) : f v = some r := by
  cases v <;> first | exact h | cases h
theorem rho_op (he : EnvOk N e a) (hs : ∀ cs b, o.op ≠ .select cs b) (h : ∀ x ∈ o.op.operands.toList, rho e x = a.eval x) : execOp (rho e) o = execOp a.eval o :=
  execOp_congr o hs fun x hx => h x (by simpa using hx)
theorem opP_inv (he : EnvOk N e a) (hs : ∀ cs b, o.op ≠ .select cs b) {k : Value → Option α} (h : opP P o e k = some r) : ∃ v, k v = some r ∧ ∀ w, ResOk P ((execOp a.eval o).run P w) v w := by
  obtain ⟨h, hr⟩ := vls_inv he _ h
  rw [rho_op he hs hr] at h
  split at h
  · rename_i v hv
    exact ⟨v, frc_inv h, fun w => by rw [pureS_run hv w]; exact ⟨rfl, rfl⟩⟩
  · cases h
theorem opR_inv (he : EnvOk N e a) (hs : ∀ cs b, o.op ≠ .select cs b) {k : Value → Option α} (h : opR P o e k = some r) : ∃ v, k v = some r ∧ ∀ w, ResOk P ((execOp a.eval o).run P w) v w := by
  obtain ⟨h, hr⟩ := vls_inv he _ h
  rw [rho_op he hs hr] at h
  split at h
  · rename_i v hv
    exact ⟨v, h, fun w => by rw [pureS_run hv w]; exact ⟨rfl, rfl⟩⟩
  · cases h
theorem opW_inv (he : EnvOk N e a) (hs : ∀ cs b, o.op ≠ .select cs b) {k : Value → World → Option α} (h : opW P o e w k = some r) : ∃ v w', k v w' = some r ∧ ResOk P ((execOp a.eval o).run P w) v w' := by
  obtain ⟨h, hr⟩ := vls_inv he _ h
  rw [rho_op he hs hr] at h
  split at h
  · rename_i v w' hv
    exact ⟨v, w', frc_inv h, by rw [hv]; exact ⟨rfl, rfl⟩⟩
  · rename_i w' hv
    exact ⟨_, w', h, by rw [hv]; exact ⟨rfl, rfl⟩⟩
  · cases h
theorem value_ok {s : Sem Value} {v : Value} {w w' : World} (h : s.run P w = .ok v w') : ResOk P ((do pure (Next.value (← s)) : Sem Next).run P w) v w' := by
  simp [h, ResOk]
theorem unit_ok {s : Sem Unit} {w w' : World} (h : s.run P w = .ok () w') : ResOk P ((do s; pure Next.skip : Sem Next).run P w) undef w' := by
  simp [h, ResOk]
def Fine (P : Program) (T : TT) (o : Oper) (a : Act) (w : World) (v : Value) (w' : World) : Prop :=
  ResOk P ((execOp a.eval o).run P w) v w' ∧ (cls T o = .v → w' = w ∧ ∀ w2, ResOk P ((execOp a.eval o).run P w2) v w2) ∧ (cls T o = .r → w' = w)
theorem Fine.pure {v : Value} (h : ∀ w, ResOk P ((execOp a.eval o).run P w) v w) : Fine P T o a w v w := ⟨h w, fun _ => ⟨rfl, h⟩, fun _ => rfl⟩
theorem Fine.read {v : Value} (hc : cls T o ≠ .v) (h : ResOk P ((execOp a.eval o).run P w) v w) : Fine P T o a w v w := ⟨h, fun hv => absurd hv hc, fun _ => rfl⟩
theorem Fine.eff {v : Value} {w' : World} (hc : cls T o = .e) (h : ResOk P ((execOp a.eval o).run P w) v w') : Fine P T o a w v w' := ⟨h, fun hv => (by rw [hc] at hv; cases hv), fun hv => (by rw [hc] at hv; cases hv)⟩
end
end Go.Proofs.YtdcdgmiojlldaaaDoor.Big
/- What the big-step reading computes of one operation is what the machine does: operation by operation. -/
namespace Go.Proofs.YtdcdgmiojlldaaaDoor.Big
open Go
set_option linter.unusedVariables false
set_option linter.unusedSimpArgs false
section
variable {α : Type} {r : α} {P : Program} {T : TT} {w : World} {O : Orc} {N : Nat} {e : Env} {a : Act} {o : Oper} {k : Value → World → Option α}
theorem op_load (hT : TOk P T) (he : EnvOk N e a) {t : TypeId} {x : Operand} (ho : o.op = .load t x) (h : opE P T O o e w k = some r) : ∃ v w', k v w' = some r ∧ Fine P T o a w v w' := by
  simp only [opE, ho] at h
  have h_ := vl_inv he h
  clear h
  obtain ⟨h, _⟩ := h_
  have h_ := tPL_inv h
  clear h
  obtain ⟨p, hp, h⟩ := h_
  have h_ := optL_inv h
  clear h
  obtain ⟨ad, rfl, h⟩ := h_
  have h_ := optL_inv h
  clear h
  obtain ⟨kd, hk, h⟩ := h_
  have h_ := ldK_inv (P := P) hT hk h
  clear h
  obtain ⟨v, h, hv⟩ := h_
  refine ⟨v, w, h, .read (by simp [cls, ho]) ?_⟩
  simp only [execOp, ho, hp, Instr.loadAt]
  exact value_ok (by simpa [Instr.sureAddr] using hv)
theorem op_store (hT : TOk P T) (he : EnvOk N e a) {t : TypeId} {x y : Operand} (ho : o.op = .store t x y) (h : opE P T O o e w k = some r) : ∃ v w', k v w' = some r ∧ Fine P T o a w v w' := by
  simp only [opE, ho] at h
  have h_ := vl_inv he h
  clear h
  obtain ⟨h, _⟩ := h_
  have h_ := tPL_inv h
  clear h
  obtain ⟨p, hp, h⟩ := h_
  have h_ := optL_inv h
  clear h
  obtain ⟨ad, rfl, h⟩ := h_
  have h_ := optL_inv h
  clear h
  obtain ⟨kd, hk, h⟩ := h_
  have h_ := vl_inv he h
  clear h
  obtain ⟨h, _⟩ := h_
  cases kd with
  | lf l =>
    obtain ⟨w', h, hs⟩ := st_lf (P := P) hT hk h
    refine ⟨undef, w', h, .eff (by simp [cls, ho]) ?_⟩
    simp only [execOp, ho, hp, Instr.storeAt]
    exact unit_ok (by simpa [Instr.sureAddr] using hs)
  | agg ls =>
    have h_ := tAL_inv h
    clear h
    obtain ⟨cs, hcs, h⟩ := h_
    cases hl : Nat.beq cs.length ls.length with
    | false => rw [hl] at h; cases h
    | true =>
      rw [hl] at h
      obtain ⟨w', h, hs⟩ := st_agg (P := P) hT hk (Nat.eq_of_beq_eq_true hl) h
      refine ⟨undef, w', h, .eff (by simp [cls, ho]) ?_⟩
      simp only [execOp, ho, hp, hcs, Instr.storeAt]
      exact unit_ok (by simpa [Instr.sureAddr] using hs)
theorem op_indexAddr (hT : TOk P T) (he : EnvOk N e a) {t : TypeId} {x i : Operand} (ho : o.op = .indexAddr t x i) (h : opE P T O o e w k = some r) : ∃ v w', k v w' = some r ∧ Fine P T o a w v w' := by
  simp only [opE, ho] at h
  have h_ := vl_inv he h
  clear h
  obtain ⟨h, _⟩ := h_
  have h_ := vl_inv he h
  clear h
  obtain ⟨h, _⟩ := h_
  split at h
  · rename_i el sz kk n hd hi
    have h_ := tLL_inv h
    clear h
    obtain ⟨A, l, c, hx, h⟩ := h_
    have h_ := ixA_inv h
    clear h
    obtain ⟨ad, rfl, hb, h⟩ := h_
    refine ⟨_, w, h, .pure fun w2 => ?_⟩
    obtain ⟨hu, hs⟩ := sl_inv hT hd
    simp only [execOp, ho, hx, hi]
    refine value_ok ?_
    simp [Instr.indexAt, asIntOf, run_und hu, run_size hs, hb]
  · rename_i len sz kk n hd hi
    have h_ := tPL_inv h
    clear h
    obtain ⟨p, hx, h⟩ := h_
    have h_ := optL_inv h
    clear h
    obtain ⟨ad, rfl, h⟩ := h_
    have h_ := ixR_inv h
    clear h
    obtain ⟨hb, h⟩ := h_
    refine ⟨_, w, h, .pure fun w2 => ?_⟩
    obtain ⟨el, hu, hs, _⟩ := arr_inv hT hd
    simp only [execOp, ho, hx, hi]
    refine value_ok ?_
    simp [Instr.indexAt, asIntOf, run_und hu, run_size hs, hb, Instr.sureAddr]
  · cases h
theorem op_index (hT : TOk P T) (he : EnvOk N e a) {t : TypeId} {x i : Operand} (ho : o.op = .index t x i) (h : opE P T O o e w k = some r) : ∃ v w', k v w' = some r ∧ Fine P T o a w v w' := by
  simp only [opE, ho] at h
  have h_ := vl_inv he h
  clear h
  obtain ⟨h, _⟩ := h_
  have h_ := vl_inv he h
  clear h
  obtain ⟨h, _⟩ := h_
  split at h
  · rename_i kk n hd hi
    have h_ := tSL_inv h
    clear h
    obtain ⟨s, hx, h⟩ := h_
    unfold ixS at h
    split at h
    · rename_i h0
      split at h
      · rename_i b hb
        refine ⟨_, w, h, .pure fun w2 => ?_⟩
        simp only [execOp, ho, hx, hi]
        refine value_ok ?_
        simp [Instr.index, asIntOf, run_und (str_inv hT hd), h0, hb]
      · cases h
    · cases h
  · obtain ⟨v, h2, hv⟩ := opP_inv (P := P) he (by simp [ho]) h
    exact ⟨v, w, h2, .pure hv⟩
  · cases h
theorem op_nilCheck (he : EnvOk N e a) {x : Operand} (ho : o.op = .nilCheck x) (h : opE P T O o e w k = some r) : ∃ v w', k v w' = some r ∧ Fine P T o a w v w' := by
  simp only [opE, ho] at h
  have h_ := vl_inv he h
  clear h
  obtain ⟨h, _⟩ := h_
  have h_ := tPL_inv h
  clear h
  obtain ⟨p, hp, h⟩ := h_
  have h_ := optL_inv h
  clear h
  obtain ⟨ad, rfl, h⟩ := h_
  refine ⟨_, w, h, .pure fun w2 => ?_⟩
  simp [execOp, ho, hp, ResOk]
theorem op_slice (hT : TOk P T) (he : EnvOk N e a) {t : TypeId} {x : Operand} {lo hi mx : Option Operand} (ho : o.op = .slice t x lo hi mx) (h : opE P T O o e w k = some r) : ∃ v w', k v w' = some r ∧ Fine P T o a w v w' := by
  cases mx with
  | none =>
    simp only [opE, ho] at h
    have h_ := vl_inv he h
    clear h
    obtain ⟨h, _⟩ := h_
    split at h
    · rename_i el sz hd
      have h_ := tLL_inv h
      clear h
      obtain ⟨A, l, c, hx, h⟩ := h_
      obtain ⟨hu, hs⟩ := sl_inv hT hd
      split at h
      · have h_ := vl_inv he h
        clear h
        obtain ⟨h, _⟩ := h_
        have h_ := tIL_inv h
        clear h
        obtain ⟨n, hn, h⟩ := h_
        have h_ := vl_inv he h
        clear h
        obtain ⟨h, _⟩ := h_
        have h_ := tIL_inv h
        clear h
        obtain ⟨m, hm, h⟩ := h_
        have h_ := cutS_inv h
        clear h
        obtain ⟨hb, h⟩ := h_
        refine ⟨_, w, h, .pure fun w2 => ?_⟩
        simp only [execOp, ho, hx, Option.map_some, hn, hm, Option.map_none]
        refine value_ok ?_
        have h1 : n.toNat ≤ m.toNat := by omega
        simp only [Instr.sliceAt, Sem.run_bind, run_und hu, Result.andThen_ok, Instr.slice, Instr.sliceBounds, Sem.run_pure, run_bound (P := P) (w := w2) .i64 m c .sliceAcap ⟨by omega, hb.2.2⟩, run_bound (P := P) (w := w2) .i64 n m.toNat .sliceB ⟨hb.1, by omega⟩, run_size hs,
          if_true, Option.isSome_none, Bool.false_eq_true, if_false]
      · have h_ := vl_inv he h
        clear h
        obtain ⟨h, _⟩ := h_
        have h_ := tIL_inv h
        clear h
        obtain ⟨n, hn, h⟩ := h_
        have h_ := cutS_inv h
        clear h
        obtain ⟨hb, h⟩ := h_
        refine ⟨_, w, h, .pure fun w2 => ?_⟩
        simp only [execOp, ho, hx, Option.map_some, hn, Option.map_none]
        refine value_ok ?_
        simp only [Instr.sliceAt, Sem.run_bind, run_und hu, Result.andThen_ok, Instr.slice, Instr.sliceBounds, Sem.run_pure, run_bound (P := P) (w := w2) .i64 n l .sliceB ⟨hb.1, hb.2.1⟩, run_size hs,
          if_true, Option.isSome_none, Bool.false_eq_true, if_false, Int.toNat_natCast]
      · have h_ := vl_inv he h
        clear h
        obtain ⟨h, _⟩ := h_
        have h_ := tIL_inv h
        clear h
        obtain ⟨m, hm, h⟩ := h_
        have h_ := cutS_inv h
        clear h
        obtain ⟨hb, h⟩ := h_
        refine ⟨_, w, h, .pure fun w2 => ?_⟩
        simp only [execOp, ho, hx, Option.map_some, hm, Option.map_none]
        refine value_ok ?_
        simp only [Instr.sliceAt, Sem.run_bind, run_und hu, Result.andThen_ok, Instr.slice, Instr.sliceBounds, Sem.run_pure, run_bound (P := P) (w := w2) .i64 m c .sliceAcap ⟨hb.2.1, hb.2.2⟩, run_size hs,
          if_true, Option.isSome_none, Bool.false_eq_true, if_false, Int.toNat_zero]
      · refine ⟨_, w, h, .pure fun w2 => ?_⟩
        simp only [execOp, ho, hx, Option.map_none]
        refine value_ok ?_
        simp only [Instr.sliceAt, Sem.run_bind, run_und hu, Result.andThen_ok, Instr.slice, Instr.sliceBounds, Sem.run_pure, run_size hs]
        by_cases hc : c = 0
        · subst hc; simp
        · simp only [hc, if_false]
          cases A <;> simp [Addr.add]
    · cases h
  | some mx =>
    simp only [opE, ho] at h
    have h_ := vl_inv he h
    clear h
    obtain ⟨h, _⟩ := h_
    split at h
    · rename_i el sz lo hi hd
      have h_ := tLL_inv h
      clear h
      obtain ⟨A, l, c, hx, h⟩ := h_
      obtain ⟨hu, hs⟩ := sl_inv hT hd
      have h_ := vl_inv he h
      clear h
      obtain ⟨h, _⟩ := h_
      have h_ := tIL_inv h
      clear h
      obtain ⟨n, hn, h⟩ := h_
      have h_ := vl_inv he h
      clear h
      obtain ⟨h, _⟩ := h_
      have h_ := tIL_inv h
      clear h
      obtain ⟨m, hm, h⟩ := h_
      have h_ := vl_inv he h
      clear h
      obtain ⟨h, _⟩ := h_
      have h_ := tIL_inv h
      clear h
      obtain ⟨q, hq, h⟩ := h_
      have h_ := cut3_inv h
      clear h
      obtain ⟨hb, h⟩ := h_
      refine ⟨_, w, h, .pure fun w2 => ?_⟩
      simp only [execOp, ho, hx, Option.map_some, hn, hm, hq]
      refine value_ok ?_
      simp only [Instr.sliceAt, Sem.run_bind, run_und hu, Result.andThen_ok, Instr.slice, Instr.sliceBounds, Sem.run_pure, run_bound (P := P) (w := w2) .i64 q c .slice3Acap ⟨by omega, hb.2.2.2⟩, run_bound (P := P) (w := w2) .i64 m q.toNat .slice3B ⟨by omega, by omega⟩,
        run_bound (P := P) (w := w2) .i64 n m.toNat .slice3C ⟨hb.1, by omega⟩, run_size hs, if_true, Option.isSome_some]
    · rename_i el sz hi hd
      have h_ := tLL_inv h
      clear h
      obtain ⟨A, l, c, hx, h⟩ := h_
      obtain ⟨hu, hs⟩ := sl_inv hT hd
      have h_ := vl_inv he h
      clear h
      obtain ⟨h, _⟩ := h_
      have h_ := tIL_inv h
      clear h
      obtain ⟨m, hm, h⟩ := h_
      have h_ := vl_inv he h
      clear h
      obtain ⟨h, _⟩ := h_
      have h_ := tIL_inv h
      clear h
      obtain ⟨q, hq, h⟩ := h_
      have h_ := cut3_inv h
      clear h
      obtain ⟨hb, h⟩ := h_
      refine ⟨_, w, h, .pure fun w2 => ?_⟩
      simp only [execOp, ho, hx, Option.map_some, hm, hq, Option.map_none]
      refine value_ok ?_
      simp only [Instr.sliceAt, Sem.run_bind, run_und hu, Result.andThen_ok, Instr.slice, Instr.sliceBounds, Sem.run_pure, run_bound (P := P) (w := w2) .i64 q c .slice3Acap ⟨by omega, hb.2.2.2⟩, run_bound (P := P) (w := w2) .i64 m q.toNat .slice3B ⟨by omega, by omega⟩,
        run_size hs, if_true, Option.isSome_some, Int.toNat_zero]
    · cases h
end
end Go.Proofs.YtdcdgmiojlldaaaDoor.Big
/- What the big-step reading computes of one operation is what the machine does: arithmetic, conversions, calls; and all operations together. -/
namespace Go.Proofs.YtdcdgmiojlldaaaDoor.Big
open Go
set_option linter.unusedVariables false
set_option linter.unusedSimpArgs false
section
variable {α : Type} {r : α} {P : Program} {T : TT} {w : World} {O : Orc} {N : Nat} {e : Env} {a : Act} {o : Oper} {k : Value → World → Option α}
theorem eqGuard_int (op : BinOp) (t : TypeId) (x y : Operand) (k1 k2 : IntKind) (m n : Int) : eqGuard op t x y (.int k1 m) (.int k2 n) = pure () := by
  unfold eqGuard; cases op <;> rfl
theorem arith_inv {op : BinOp} {t : TypeId} {k1 k2 : IntKind} {m n : Int} {f : Value → Option α} (hk : (isShift op || decide (k1 = k2)) = true) (h : arith op k1 m n f = some r) :
    ∃ v, f v = some r ∧ ∀ w, (binOp op t (.int k1 m) (.int k2 n)).run P w = .ok v w := by
  cases op <;> simp only [arith] at h <;> first | (cases h; done) | skip
  · split at h
    · cases h
    · rename_i hn
      refine ⟨_, h, fun w => ?_⟩
      simp only [isShift, Bool.false_or, decide_eq_true_eq] at hk
      subst hk
      simp [binOp, Op.intDiv, hn]
  · split at h
    · cases h
    · rename_i hn
      refine ⟨_, h, fun w => ?_⟩
      simp only [isShift, Bool.false_or, decide_eq_true_eq] at hk
      subst hk
      simp [binOp, Op.intDiv, hn]
  · split at h
    · cases h
    · rename_i hn
      exact ⟨_, h, fun w => by simp [binOp, Op.shift, hn]⟩
  · split at h
    · cases h
    · rename_i hn
      exact ⟨_, h, fun w => by simp [binOp, Op.shift, hn]⟩
theorem eqOp_inv {op : BinOp} {b : Bool} {f : Value → Option α} (h : eqOp op b f = some r) : (op = .eql ∧ f (.bool b) = some r) ∨ (op = .neq ∧ f (.bool (!b)) = some r) := by
  cases op <;> simp only [eqOp] at h <;> first | exact .inl ⟨rfl, h⟩ | exact .inr ⟨rfl, h⟩ | cases h
theorem run_eq (t : TypeId) (x y : Value) (b : Bool) (h : (Op.equalIn (9999 + 1) t x y).run P w = .ok b w) : (Op.equal t x y).run P w = .ok b w := h
theorem eqNil_inv (hT : TOk P T) {t : TypeId} {x y : Value} {op : BinOp} {f : Value → Option α} (h : eqNil (dOf T t) x y op f = some r) :
    ∃ b, eqOp op b f = some r ∧ (∀ w, (Op.equal t x y).run P w = .ok b w) ∧ (∀ x' y', eqGuard op t x' y' x y = pure ()) ∧ ∀ op', binOp op' t x y = match op' with | .eql => (do pure (.bool (← Op.equal t x y))) | .neq => (do pure (.bool (!(← Op.equal t x y)))) | _ => binOp op' t x y := by
  unfold eqNil at h
  split at h
  · rename_i hd
    obtain ⟨i, _, hi, ok⟩ := dOf_inv hT hd (by simp)
    have ok := ok.1; rw [hi] at ok; obtain ⟨e, hu⟩ := ok
    split at h
    · rename_i p
      refine ⟨_, h, fun w => run_eq _ _ _ _ ?_, fun x' y' => ?_, fun op' => ?_⟩
      · cases p <;> (unfold Op.equalIn; simp [run_und hu])
      · unfold eqGuard; cases op <;> rfl
      · cases op' <;> rfl
    · cases h
  · rename_i el sz hd
    obtain ⟨hu, _⟩ := sl_inv hT hd
    split at h
    · rename_i p _ _ _ _
      refine ⟨_, h, fun w => run_eq _ _ _ _ ?_, fun x' y' => ?_, fun op' => ?_⟩
      · cases p <;> (unfold Op.equalIn; simp [run_und hu])
      · unfold eqGuard; cases op <;> rfl
      · cases op' <;> rfl
    · cases h
  · rename_i hd
    obtain ⟨i, _, hi, ok⟩ := dOf_inv hT hd (by simp)
    have ok := ok.1; rw [hi] at ok; obtain ⟨kk, e, hu⟩ := ok
    split at h
    · rename_i p
      refine ⟨_, h, fun w => run_eq _ _ _ _ ?_, fun x' y' => ?_, fun op' => ?_⟩
      · cases p <;> (unfold Op.equalIn; simp [run_und hu])
      · unfold eqGuard; cases op <;> rfl
      · cases op' <;> rfl
    · cases h
  · cases h
section
variable {P : Program} {w : World}
theorem run_isAgg {e : TypeId} {k : IntKind} (he : P.underlying e = some (.int k)) : (isAgg e).run P w = .ok false w := by
  simp [isAgg, run_und he]
theorem run_part {e : TypeId} {k : IntKind} (he : P.underlying e = some (.int k)) {cs : Array Value} {o : Nat} {v : Value} (hv : cs[o]? = some v) : (part e cs o).run P w = .ok v w := by
  simp [part, run_isAgg he, hv]
theorem run_eqI {e : TypeId} {k : IntKind} (he : P.underlying e = some (.int k)) (d : Nat) (a b : Int) : (Op.equalIn (d + 1) e (.int k a) (.int k b)).run P w = .ok (a == b) w := by
  unfold Op.equalIn
  simp [run_und he]
theorem run_eq2 {t e : TypeId} {k : IntKind} (hu : P.underlying t = some (.array 2 e)) (he : P.underlying e = some (.int k)) (hs : (P.info? e).map (·.size) = some 1) (a b c d : Int) :
    (Op.equal t (.agg #[.int k a, .int k b]) (.agg #[.int k c, .int k d])).run P w = .ok (a == c && b == d) w := by
  have h1 : ∀ w : World, (Op.equalIn 9999 e (.int k a) (.int k c)).run P w = .ok (a == c) w := fun w => run_eqI he 9998 a c
  have h2 : ∀ w : World, (Op.equalIn 9999 e (.int k b) (.int k d)).run P w = .ok (b == d) w := fun w => run_eqI he 9998 b d
  show (Op.equalIn (9999 + 1) t (.agg #[.int k a, .int k b]) (.agg #[.int k c, .int k d])).run P w = _
  have p1 : ∀ (x y : Value) (w : World), (part e #[x, y] 0).run P w = .ok x w := fun x y w => run_part he rfl
  have p2 : ∀ (x y : Value) (w : World), (part e #[x, y] 1).run P w = .ok y w := fun x y w => run_part he rfl
  unfold Op.equalIn
  simp only [Sem.run_bind, run_und hu, run_size hs, Std.Legacy.Range.forIn_eq_forIn_range', Std.Legacy.Range.size]
  have hz : ∀ w : World, (sizeOf e).run P w = .ok 1 w := fun w => run_size hs
  simp [List.range', h1, h2, p1, p2, hz]
  by_cases h : a = c
  · rw [if_pos h]
    by_cases h' : b = d
    · simp [h, h']
    · simp [h, h']
  · rw [if_neg h]
    simp [h]
theorem run_guard2 {op : BinOp} {t e : TypeId} {k : IntKind} (hu : P.underlying t = some (.array 2 e)) (he : P.underlying e = some (.int k)) (hs : (P.info? e).map (·.size) = some 1) (x' y' : Operand) (a b c d : Int) :
    (eqGuard op t x' y' (.agg #[.int k a, .int k b]) (.agg #[.int k c, .int k d])).run P w = .ok () w := by
  have h1 : ∀ w : World, (Op.eqGuardIn 9999 e (.int k a) (.int k c)).run P w = .ok false w := fun w => by unfold Op.eqGuardIn; simp [run_und he]
  have h2 : ∀ w : World, (Op.eqGuardIn 9999 e (.int k b) (.int k d)).run P w = .ok false w := fun w => by unfold Op.eqGuardIn; simp [run_und he]
  have p1 : ∀ (x y : Value) (w : World), (part e #[x, y] 0).run P w = .ok x w := fun x y w => run_part he rfl
  have p2 : ∀ (x y : Value) (w : World), (part e #[x, y] 1).run P w = .ok y w := fun x y w => run_part he rfl
  have hz : ∀ w : World, (sizeOf e).run P w = .ok 1 w := fun w => run_size hs
  have key : ∀ w : World, (Op.eqGuardIn (9999 + 1) t (.agg #[.int k a, .int k b]) (.agg #[.int k c, .int k d])).run P w = .ok false w := fun w => by
    unfold Op.eqGuardIn
    simp only [Sem.run_bind, run_und hu, Std.Legacy.Range.forIn_eq_forIn_range', Std.Legacy.Range.size]
    simp [List.range', h1, h2, p1, p2, hz]
  have key : ∀ w : World, (Op.eqGuardIn Op.maxDepth t (.agg #[.int k a, .int k b]) (.agg #[.int k c, .int k d])).run P w = .ok false w := key
  unfold eqGuard
  cases op <;> simp [key] <;> split <;> simp
end
theorem eqI2_inv (hT : TOk P T) {t : TypeId} {x y : Value} {op : BinOp} {f : Value → Option α} (h : eqI2 (dOf T t) x y op f = some r) :
    ∃ b, eqOp op b f = some r ∧ (∀ w, (Op.equal t x y).run P w = .ok b w) ∧ (∀ x' y' w, (eqGuard op t x' y' x y).run P w = .ok () w) ∧ ∀ op', binOp op' t x y = match op' with | .eql => (do pure (.bool (← Op.equal t x y))) | .neq => (do pure (.bool (!(← Op.equal t x y)))) | _ => binOp op' t x y := by
  unfold eqI2 at h
  split at h
  · rename_i kk hd
    obtain ⟨i, _, hi, ok⟩ := dOf_inv hT hd (by simp)
    have ok := ok.1; rw [hi] at ok; obtain ⟨e, hu, he, hs⟩ := ok
    obtain ⟨xs, rfl, h2⟩ := tA_inv h; clear h
    obtain ⟨ys, rfl, h⟩ := tA_inv h2; clear h2
    obtain ⟨a, xs, rfl, h2⟩ := tC_inv h; clear h
    obtain ⟨b, xs, rfl, h⟩ := tC_inv h2; clear h2
    obtain ⟨rfl, h2⟩ := tN_inv h; clear h
    obtain ⟨c, ys, rfl, h⟩ := tC_inv h2; clear h2
    obtain ⟨d, ys, rfl, h2⟩ := tC_inv h; clear h
    obtain ⟨rfl, h⟩ := tN_inv h2; clear h2
    obtain ⟨a, rfl, h2⟩ := tI_inv h; clear h
    obtain ⟨b, rfl, h⟩ := tI_inv h2; clear h2
    obtain ⟨c, rfl, h2⟩ := tI_inv h; clear h
    obtain ⟨d, rfl, h⟩ := tI_inv h2; clear h2
    refine ⟨_, h, fun w => run_eq2 hu he hs a b c d, fun x' y' w => run_guard2 hu he hs x' y' a b c d, fun op' => ?_⟩
    cases op' <;> rfl
  · cases h
theorem op_binOp (hT : TOk P T) (he : EnvOk N e a) {op : BinOp} {t yt : TypeId} {x y : Operand} (ho : o.op = .binOp op t x y yt) (h : opE P T O o e w k = some r) : ∃ v w', k v w' = some r ∧ Fine P T o a w v w' := by
  simp only [opE, ho] at h
  cases ha : isArith op with
  | true =>
    rw [ha] at h
    obtain ⟨h2, _⟩ := vl_inv he h; clear h
    obtain ⟨h, _⟩ := vl_inv he h2; clear h2
    split at h
    · rename_i k1 m k2 n hx hy
      cases hk : (isShift op || decide (k1 = k2)) with
      | false => rw [hk] at h; cases h
      | true =>
        rw [hk] at h
        have h : arith op k1 m n (fun v => k v w) = some r := h
        obtain ⟨v, h2, hv⟩ := arith_inv (P := P) (t := t) (k2 := k2) hk h
        refine ⟨v, w, h2, .pure fun w2 => ?_⟩
        simp only [execOp, ho, hx, hy]
        refine value_ok ?_
        rw [eqGuard_int]
        simpa using hv w2
    · cases h
  | false =>
    rw [ha] at h
    cases hn : isNilable (dOf T t) with
    | true =>
      rw [hn] at h
      obtain ⟨h2, _⟩ := vl_inv he h; clear h
      obtain ⟨h, _⟩ := vl_inv he h2; clear h2
      obtain ⟨b, h2, hb, hg, hop⟩ := eqNil_inv (P := P) hT h
      rcases eqOp_inv h2 with ⟨rfl, h3⟩ | ⟨rfl, h3⟩
      · refine ⟨_, w, h3, .pure fun w2 => ?_⟩
        simp only [execOp, ho]
        refine value_ok ?_
        rw [hg, hop .eql]
        simp [hb w2]
      · refine ⟨_, w, h3, .pure fun w2 => ?_⟩
        simp only [execOp, ho]
        refine value_ok ?_
        rw [hg, hop .neq]
        simp [hb w2]
    | false =>
      rw [hn] at h
      cases hi : isI2 (dOf T t) with
      | true =>
        rw [hi] at h
        obtain ⟨h2, _⟩ := vl_inv he h; clear h
        obtain ⟨h, _⟩ := vl_inv he h2; clear h2
        obtain ⟨b, h2, hb, hg, hop⟩ := eqI2_inv (P := P) hT h
        rcases eqOp_inv h2 with ⟨rfl, h3⟩ | ⟨rfl, h3⟩
        · refine ⟨_, w, h3, .pure fun w2 => ?_⟩
          simp only [execOp, ho]
          refine value_ok ?_
          rw [hop .eql]
          simp [hb, hg]
        · refine ⟨_, w, h3, .pure fun w2 => ?_⟩
          simp only [execOp, ho]
          refine value_ok ?_
          rw [hop .neq]
          simp [hb, hg]
      | false =>
        rw [hi] at h
        obtain ⟨v, h2, hv⟩ := opP_inv (P := P) he (by simp [ho]) h
        exact ⟨v, w, h2, .pure hv⟩
theorem op_convert (hT : TOk P T) (he : EnvOk N e a) {s d : TypeId} {x : Operand} (ho : o.op = .convert s d x) (h : opE P T O o e w k = some r) : ∃ v w', k v w' = some r ∧ Fine P T o a w v w' := by
  simp only [opE, ho] at h
  split at h
  · rename_i el sz hs hd
    split at h
    · rename_i hel
      obtain ⟨h2, _⟩ := vl_inv he h; clear h
      obtain ⟨A, l, c, hx, h⟩ := tLL_inv h2; clear h2
      obtain ⟨str, hstr, h⟩ := opt_inv h
      refine ⟨_, w, h, .read (by simp [cls, ho, hd]) ?_⟩
      simp only [execOp, ho, hx]
      refine value_ok ?_
      have e1 := (sl_inv hT hs).1
      have e2 := str_inv hT hd
      have e3 := int_inv hT hel
      have e4 := strOf_inv (P := P) (c := c) hstr
      cases A <;> simp [Go.convert, run_und e1, run_und e2, run_und e3, e4]
    · cases h
  · obtain ⟨v, h2, hv⟩ := opP_inv (P := P) he (by simp [ho]) h
    exact ⟨v, w, h2, .read (by rename_i hs hd; simp [cls, ho, hd]) (hv w)⟩
  · rename_i el sz hn1 hn2 hd
    obtain ⟨h2, _⟩ := vl_inv he h; clear h
    obtain ⟨v, w', hv, h⟩ := rn_inv h2; clear h2
    obtain ⟨A, l, c, rfl, h2⟩ := tL_inv h
    refine ⟨_, w', h2, .eff (by simp [cls, ho, hd]) ?_⟩
    simp only [execOp, ho]
    exact value_ok hv
  · cases h
theorem op_rn {s : Sem Value} (hc : cls T o = .e) (hx : execOp a.eval o = (do pure (Next.value (← s)))) {v : Value} {w' : World} (hv : s.run P w = .ok v w') : Fine P T o a w v w' :=
  .eff hc (by rw [hx]; exact value_ok hv)
theorem resolve_builtin (ρ : Operand → Value) (b : Builtin) (as : Array Operand) (ts : Array TypeId) (t : TypeId) :
    (do let d ← resolve ρ { callee := .builtin b, args := as, argTypes := ts } t; invoke d.target d.args) = builtin b ts t (as.map fun | .const _ => true | _ => false) (as.map ρ) := rfl
theorem run_call (ρ : Operand → Value) (b : Builtin) (as : Array Operand) (ts : Array TypeId) (ho : o.op = .call { callee := .builtin b, args := as, argTypes := ts }) : execOp ρ o = builtin b ts o.type (as.map fun | .const _ => true | _ => false) (as.map ρ) := by
  simp only [execOp, ho]; rfl
theorem op_builtin (he : EnvOk N e a) {c : Call} {b : Builtin} (ho : o.op = .call c) (hb : c.callee = .builtin b) (h : opE P T O o e w k = some r) : ∃ v w', k v w' = some r ∧ Fine P T o a w v w' := by
  obtain ⟨callee, as, ts⟩ := c
  simp only at hb
  subst hb
  have hmap : ∀ vs, vs = as.toList.map a.eval → vs.toArray = as.map a.eval := by
    intro vs hv; rw [hv]; apply Array.ext'; simp
  simp only [opE, ho] at h
  cases b <;> simp only at h <;> first | (cases h; done) | skip
  case len =>
    cases hm : isMapArg T ts with
    | false =>
      rw [hm] at h
      obtain ⟨v, h2, hv⟩ := opP_inv (P := P) he (by simp [ho]) h
      exact ⟨v, w, h2, .pure hv⟩
    | true =>
      rw [hm] at h
      obtain ⟨h2, _⟩ := vls_inv he _ h; clear h
      obtain ⟨v, w', hv, h⟩ := rn_inv h2; clear h2
      obtain ⟨n, rfl, h2⟩ := tI_inv h
      rw [hmap _ rfl] at hv
      exact ⟨_, w', h2, .eff (by simp [cls, ho, hm]) (by rw [run_call _ _ _ _ ho]; simp [builtin, hv, ResOk])⟩
  case min => obtain ⟨v, h2, hv⟩ := opP_inv (P := P) he (by simp [ho]) h; exact ⟨v, w, h2, .pure hv⟩
  case max => obtain ⟨v, h2, hv⟩ := opP_inv (P := P) he (by simp [ho]) h; exact ⟨v, w, h2, .pure hv⟩
  case append =>
    obtain ⟨h2, _⟩ := vls_inv he _ h; clear h
    obtain ⟨v, w', hv, h⟩ := rn_inv h2; clear h2
    obtain ⟨A, l, c, rfl, h2⟩ := tL_inv h
    rw [hmap _ rfl] at hv
    exact ⟨_, w', h2, .eff (by simp [cls, ho]) (by rw [run_call _ _ _ _ ho]; simp [builtin, hv, ResOk])⟩
  case clear =>
    obtain ⟨h2, _⟩ := vls_inv he _ h; clear h
    obtain ⟨v, w', hv, h⟩ := rn_inv h2; clear h2
    rw [hmap _ rfl] at hv
    exact ⟨_, w', h, .eff (by simp [cls, ho]) (by rw [run_call _ _ _ _ ho]; simp [builtin, hv, ResOk])⟩
  case copy =>
    obtain ⟨h2, _⟩ := vls_inv he _ h; clear h
    obtain ⟨v, w', hv, h⟩ := rn_inv h2; clear h2
    rw [hmap _ rfl] at hv
    exact ⟨_, w', h, .eff (by simp [cls, ho]) (by rw [run_call _ _ _ _ ho]; simp [builtin, hv, ResOk])⟩
  case delete =>
    obtain ⟨h2, _⟩ := vls_inv he _ h; clear h
    obtain ⟨v, w', hv, h⟩ := rn_inv h2; clear h2
    rw [hmap _ rfl] at hv
    exact ⟨_, w', h, .eff (by simp [cls, ho]) (by rw [run_call _ _ _ _ ho]; simp [builtin, hv, ResOk])⟩
theorem op_callf (hO : OOk P O) (he : EnvOk N e a) {c : Call} {f : Operand} (ho : o.op = .call c) (hb : c.callee = .value f) (h : opE P T O o e w k = some r) : ∃ v w', k v w' = some r ∧ Fine P T o a w v w' := by
  obtain ⟨callee, as, ts⟩ := c
  simp only at hb
  subst hb
  simp only [opE, ho] at h
  obtain ⟨h2, _⟩ := vl_inv he h; clear h
  obtain ⟨g, first, caps, hf, h⟩ := tFL_inv h2; clear h2
  obtain ⟨g, rfl, h2⟩ := tGL_inv h; clear h
  obtain ⟨h, _⟩ := vls_inv he _ h2; clear h2
  obtain ⟨run, hrun, h2⟩ := optL_inv h; clear h
  obtain ⟨vs, w', hr, h⟩ := cl_inv h2; clear h2
  obtain ⟨ks, _, h2⟩ := optL_inv h; clear h
  have h := outs_inv h2
  refine ⟨_, w', h, .eff (by simp [cls, ho]) ?_⟩
  have := hO g run hrun _ w vs w' hr
  simp only [execOp, ho, resolve, hf, Deferred.ofValue, Sem.run_bind, Sem.run_pure, Result.andThen_ok, invoke]
  have e1 : (first ++ as.map a.eval ++ caps) = (first.toList ++ as.toList.map a.eval ++ caps.toList).toArray := by
    apply Array.ext'; simp
  rw [e1]
  exact this
theorem op_make (he : EnvOk N e a) {t : TypeId} {l c : Operand} (ho : o.op = .makeSlice t l c) (h : opE P T O o e w k = some r) : ∃ v w', k v w' = some r ∧ Fine P T o a w v w' := by
  simp only [opE, ho] at h
  obtain ⟨h2, _⟩ := vl_inv he h; clear h
  obtain ⟨h, _⟩ := vl_inv he h2; clear h2
  obtain ⟨v, w', hv, h2⟩ := rn_inv h; clear h
  obtain ⟨A, l, c, rfl, h⟩ := tL_inv h2
  exact ⟨_, w', h, op_rn (by simp [cls, ho]) (by simp only [execOp, ho]) hv⟩
theorem op_lookup (he : EnvOk N e a) {t : TypeId} {x i : Operand} {ok : Bool} (ho : o.op = .lookup t x i ok) (h : opE P T O o e w k = some r) : ∃ v w', k v w' = some r ∧ Fine P T o a w v w' := by
  simp only [opE, ho] at h
  obtain ⟨h2, _⟩ := vl_inv he h; clear h
  obtain ⟨h, _⟩ := vl_inv he h2; clear h2
  obtain ⟨v, w', hv, h2⟩ := rn_inv h; clear h
  obtain ⟨ks, _, h⟩ := optL_inv h2; clear h2
  split at h
  · exact ⟨_, w', ty_inv h, op_rn (by simp [cls, ho]) (by simp only [execOp, ho]) hv⟩
  · split at h
    · rename_i vs
      have h2 := tys_inv _ h
      exact ⟨_, w', by simpa using h2, op_rn (by simp [cls, ho]) (by simp only [execOp, ho]) hv⟩
    · cases h
theorem op_mapUpdate (he : EnvOk N e a) {t : TypeId} {m i x : Operand} (ho : o.op = .mapUpdate t m i x) (h : opE P T O o e w k = some r) : ∃ v w', k v w' = some r ∧ Fine P T o a w v w' := by
  simp only [opE, ho] at h
  obtain ⟨h2, _⟩ := vl_inv he h; clear h
  obtain ⟨h, _⟩ := vl_inv he h2; clear h2
  obtain ⟨h2, _⟩ := vl_inv he h; clear h
  obtain ⟨v, w', hv, h⟩ := rn_inv h2; clear h2
  refine ⟨_, w', h, .eff (by simp [cls, ho]) ?_⟩
  simp only [execOp, ho]
  refine unit_ok ?_
  simp only [Sem.run_bind] at hv
  cases hr : (Instr.mapUpdate t (a.eval m) (a.eval i) (a.eval x)).run P w with
  | ok u w1 => rw [hr] at hv; simp at hv; rw [hv.2]
  | halt u w1 => rw [hr] at hv; simp at hv
theorem op_range (he : EnvOk N e a) {t : TypeId} {x : Operand} (ho : o.op = .range t x) (h : opE P T O o e w k = some r) : ∃ v w', k v w' = some r ∧ Fine P T o a w v w' := by
  simp only [opE, ho] at h
  obtain ⟨h2, _⟩ := vl_inv he h; clear h
  obtain ⟨v, w', hv, h⟩ := rn_inv h2; clear h2
  obtain ⟨a', rfl, h2⟩ := tD_inv h; clear h
  exact ⟨_, w', h2, op_rn (by simp [cls, ho]) (by simp only [execOp, ho]) hv⟩
theorem nxV_inv {α : Type} {r : α} {v : Value} {f : Option α} {g : Value → Value → Option α} (h : nxV v f g = some r) : (v = .tuple #[.bool false] ∧ f = some r) ∨ ∃ x y, v = .tuple #[.bool true, x, y] ∧ g x y = some r := by
  unfold nxV at h
  split at h
  · rename_i vs
    obtain ⟨u, us, e1, h2⟩ := tC_inv h; clear h
    obtain ⟨b, rfl, h⟩ := tB_inv h2; clear h2
    cases b with
    | true =>
      obtain ⟨x, us, rfl, h2⟩ := tC_inv h; clear h
      obtain ⟨y, us, rfl, h⟩ := tC_inv h2; clear h2
      obtain ⟨rfl, h2⟩ := tN_inv h; clear h
      exact .inr ⟨x, y, by rw [show vs = #[.bool true, x, y] from Array.toList_inj.1 e1], h2⟩
    | false =>
      obtain ⟨rfl, h2⟩ := tN_inv h; clear h
      exact .inl ⟨by rw [show vs = #[.bool false] from Array.toList_inj.1 e1], h2⟩
  · cases h
theorem enV_inv {α : Type} {r : α} {v : Value} {g : Value → Value → Option α} (h : enV v g = some r) : ∃ x y, v = .tuple #[x, y] ∧ g x y = some r := by
  unfold enV at h
  split at h
  · rename_i vs
    obtain ⟨x, us, e1, h2⟩ := tC_inv h; clear h
    obtain ⟨y, us, rfl, h⟩ := tC_inv h2; clear h2
    obtain ⟨rfl, h2⟩ := tN_inv h; clear h
    exact ⟨x, y, by rw [show vs = #[x, y] from Array.toList_inj.1 e1], h2⟩
  · cases h
theorem op_next (he : EnvOk N e a) {x : Operand} {s : Bool} (ho : o.op = .next x s) (h : opE P T O o e w k = some r) : ∃ v w', k v w' = some r ∧ Fine P T o a w v w' := by
  simp only [opE, ho] at h
  obtain ⟨h2, _⟩ := vl_inv he h; clear h
  obtain ⟨v, w', hv, h⟩ := rn_inv h2; clear h2
  rcases nxV_inv h with ⟨rfl, h2⟩ | ⟨x, y, rfl, h2⟩
  · exact ⟨_, w', h2, op_rn (by simp [cls, ho]) (by simp only [execOp, ho]) hv⟩
  · exact ⟨_, w', h2, op_rn (by simp [cls, ho]) (by simp only [execOp, ho]) hv⟩
theorem op_entry (he : EnvOk N e a) {x : Operand} (ho : o.op = .entry x) (h : opE P T O o e w k = some r) : ∃ v w', k v w' = some r ∧ Fine P T o a w v w' := by
  simp only [opE, ho] at h
  obtain ⟨h2, _⟩ := vl_inv he h; clear h
  obtain ⟨v, w', hv, h⟩ := rn_inv h2; clear h2
  obtain ⟨x, y, rfl, h2⟩ := enV_inv h
  exact ⟨_, w', h2, op_rn (by simp [cls, ho]) (by simp only [execOp, ho]) hv⟩
theorem op_extract (he : EnvOk N e a) {x : Operand} {i : Nat} (ho : o.op = .extract x i) (h : opE P T O o e w k = some r) : ∃ v w', k v w' = some r ∧ Fine P T o a w v w' := by
  simp only [opE, ho] at h
  obtain ⟨v, h2, hv⟩ := opR_inv (P := P) he (by simp [ho]) h
  split at h2
  · exact ⟨v, w, ty_inv h2, .pure hv⟩
  · exact ⟨v, w, frc_inv h2, .pure hv⟩
theorem opP_fine (he : EnvOk N e a) (hs : ∀ cs b, o.op ≠ .select cs b) (h : opP P o e (fun v => k v w) = some r) : ∃ v w', k v w' = some r ∧ Fine P T o a w v w' := by
  obtain ⟨v, h2, hv⟩ := opP_inv he hs h
  exact ⟨v, w, h2, .pure hv⟩
theorem opW_fine (he : EnvOk N e a) (hs : ∀ cs b, o.op ≠ .select cs b) (hc : cls T o = .e) (h : opW P o e w k = some r) : ∃ v w', k v w' = some r ∧ Fine P T o a w v w' := by
  obtain ⟨v, w', h2, hv⟩ := opW_inv he hs h
  exact ⟨v, w', h2, .eff hc hv⟩
theorem opE_inv (hT : TOk P T) (hO : OOk P O) (he : EnvOk N e a) (h : opE P T O o e w k = some r) : ∃ v w', k v w' = some r ∧ Fine P T o a w v w' := by
  cases ho : o.op
  case load => exact op_load hT he ho h
  case store => exact op_store hT he ho h
  case indexAddr => exact op_indexAddr hT he ho h
  case index => exact op_index hT he ho h
  case slice => exact op_slice hT he ho h
  case nilCheck => exact op_nilCheck he ho h
  case binOp => exact op_binOp hT he ho h
  case convert => exact op_convert hT he ho h
  case makeSlice => exact op_make he ho h
  case lookup => exact op_lookup he ho h
  case mapUpdate => exact op_mapUpdate he ho h
  case call c =>
    cases hc : c.callee with
    | value f => exact op_callf hO he ho hc h
    | builtin b => exact op_builtin he ho hc h
    | invoke x m => simp only [opE, ho, hc] at h; cases h
  case alloc => simp only [opE, ho] at h; exact opW_fine he (by simp [ho]) (by simp [cls, ho]) h
  case box => simp only [opE, ho] at h; exact opW_fine he (by simp [ho]) (by simp [cls, ho]) h
  case buildSlice => simp only [opE, ho] at h; exact opW_fine he (by simp [ho]) (by simp [cls, ho]) h
  case makeMap => simp only [opE, ho] at h; exact opW_fine he (by simp [ho]) (by simp [cls, ho]) h
  case range => exact op_range he ho h
  case next => exact op_next he ho h
  case entry => exact op_entry he ho h
  case move => simp only [opE, ho] at h; exact opP_fine he (by simp [ho]) h
  case assign => simp only [opE, ho] at h; exact opP_fine he (by simp [ho]) h
  case pick => simp only [opE, ho] at h; exact opP_fine he (by simp [ho]) h
  case build => simp only [opE, ho] at h; exact opP_fine he (by simp [ho]) h
  case field => simp only [opE, ho] at h; exact opP_fine he (by simp [ho]) h
  case unOp => simp only [opE, ho] at h; exact opP_fine he (by simp [ho]) h
  case makeFunc => simp only [opE, ho] at h; exact opP_fine he (by simp [ho]) h
  case extract => exact op_extract he ho h
  case fieldAddr => simp only [opE, ho] at h; exact opP_fine he (by simp [ho]) h
  all_goals (simp only [opE, ho] at h; cases h)
end
end Go.Proofs.YtdcdgmiojlldaaaDoor.Big
/- Regions: in the text's order, and in whatever order. -/
namespace Go.Proofs.YtdcdgmiojlldaaaDoor.Big
open Go
set_option linter.unusedVariables false
set_option linter.unusedSimpArgs false
def okDst (N : Nat) (ops : List Oper) : Bool := ops.all fun o => match o.dst with | some d => Nat.blt d N | none => true
section
variable {P : Program} {T : TT} {O : Orc} {N : Nat} {e : Env} {a : Act} {w : World} {r : Res}
theorem look_cons {β : Type} {t d : Nat} {v u : β} {e : List (Nat × β)} (h : look t ((d, v) :: e) = some u) : (t = d ∧ u = v) ∨ (t ≠ d ∧ look t e = some u) := by
  have h : cond (Nat.beq d t) (some v) (look t e) = some u := h
  by_cases ht : d = t
  · subst ht; rw [Nat.beq_refl] at h; injection h with h; exact .inl ⟨rfl, h.symm⟩
  · rw [Bool.eq_false_iff.2 fun h' => ht (Nat.eq_of_beq_eq_true h')] at h
    exact .inr ⟨fun h' => ht h'.symm, h⟩
theorem EnvOk.put (he : EnvOk N e a) {d : Option Tmp} (hd : ∀ x, d = some x → x < N) (v : Value) : EnvOk N (putE d v e) (a.put d v) := by
  cases d with
  | none => exact he
  | some d =>
    refine ⟨by simp [Act.put, he.size], he.defers, fun t u h => ?_⟩
    have hlt : d < a.tmps.size := by rw [he.size]; exact hd d rfl
    rcases look_cons h with ⟨rfl, rfl⟩ | ⟨hne, h⟩
    · simp [Act.put, hlt]
    · simp [Act.put, Array.getElem?_setIfInBounds_ne (Ne.symm hne), he.get t u h]
theorem EnvOk.again (he : EnvOk N e a) {d : Nat} {v : Value} (h : look d e = some v) : EnvOk N ((d, v) :: e) a :=
  ⟨he.size, he.defers, fun t u ht => by
    rcases look_cons ht with ⟨rfl, rfl⟩ | ⟨_, h'⟩
    · exact he.get _ _ h
    · exact he.get _ _ h'⟩
theorem guarded_inv {α : Type} {r : α} {all : Array Oper} {o : Oper} (he : EnvOk N e a) {f : Bool → Env → Option α} (h : guarded all o e f = some r) :
    ∃ e', EnvOk N e' a ∧ f (Region.wanted o (yielded all a.tmps)) e' = some r := by
  unfold guarded at h
  unfold Region.wanted
  split at h
  · rename_i hg; rw [hg]; exact ⟨e, he, h⟩
  · rename_i j want hg
    rw [hg]
    obtain ⟨d, hd, h⟩ := optL_inv h
    obtain ⟨v, hv, h⟩ := optL_inv h
    have hy : (dstOf all j).bind (a.tmps[·]?) = some v := by rw [hd]; exact he.get d v hv
    unfold dstOf at hy
    simp only [yielded, hy]
    split at h
    · rename_i b
      refine ⟨(d, .bool b) :: e, he.again hv, ?_⟩
      cases b <;> cases want <;> exact h
    · exact ⟨e, he, h⟩
    · cases h
theorem regE_cons {all : Array Oper} {o : Oper} {l : List Oper} {e : Env} {w : World} {k : K} : regE P T O all (o :: l) e w k =
    guarded all o e fun b e => cond b (opE P T O o e w fun v w' => regE P T O all l (putE o.dst v e) w' k) (regE P T O all l (putE o.dst undef e) w k) := rfl
theorem regD_cons {bits : List Nat} {all : Array Oper} {o : Oper} {l : List Oper} {i : Nat} {e : Env} {w : World} {hist : List (Nat × World)} {pend : List Pend} {k : K} : regD P T O bits all (o :: l) i e w hist pend k =
    guarded all o e fun b e => cond b
      (opE P T O o e w fun v w' =>
        match cls T o with
        | .v => regD P T O bits all l (i + 1) (putE o.dst v e) w hist pend k
        | .r => ckBack P T O bits i o e v hist (regD P T O bits all l (i + 1) (putE o.dst v e) w hist (⟨i, o, e, v⟩ :: pend) k)
        | .e => ckFore P T O bits i w' pend (regD P T O bits all l (i + 1) (putE o.dst v e) w' ((i, w) :: hist) pend k))
      (regD P T O bits all l (i + 1) (putE o.dst undef e) w hist pend k) := rfl
theorem regE_inv (hT : TOk P T) (hO : OOk P O) {all : Array Oper} {k : K} {Q : Exit → Act → World → Prop} (hQ : ∀ e' a' w', EnvOk N e' a' → k e' w' = some r → Q .normal a' w') :
    ∀ (l : List Oper) (i : Nat) (e : Env) (a : Act) (w : World), (∀ j : Nat, l[j]? = all[i + j]?) → okDst N l = true → EnvOk N e a → regE P T O all l e w k = some r → wpOps P all Q (List.range' i l.length) a w
  | [], i, e, a, w, _, _, he, h => hQ e a w he h
  | o :: l, i, e, a, w, hl, hd, he, h => by
    have h0 := hl 0
    simp only [List.getElem?_cons_zero, Nat.add_zero] at h0
    simp only [okDst, List.all_cons, Bool.and_eq_true] at hd
    have hd0 : ∀ x, o.dst = some x → x < N := fun x hx => by have := hd.1; rw [hx] at this; exact Nat.le_of_ble_eq_true this
    have hl' : ∀ j : Nat, l[j]? = all[i + 1 + j]? := fun j => by have := hl (j + 1); rw [List.getElem?_cons_succ] at this; rw [this]; congr 1; omega
    rw [regE_cons] at h
    obtain ⟨e', he', h⟩ := guarded_inv he h
    simp only [List.length_cons, List.range'_succ, wpOps, ← h0]
    cases hw : Region.wanted o (yielded all a.tmps) with
    | true =>
      rw [hw, cond_true] at h
      obtain ⟨v, w', h, hf⟩ := opE_inv hT hO he' h
      simp only [if_true]
      exact .inl (hf.1.wp (regE_inv hT hO hQ l (i + 1) _ _ _ hl' hd.2 (he'.put hd0 v) h))
    | false =>
      rw [hw] at h
      simp only [Bool.false_eq_true, if_false]
      exact regE_inv hT hO hQ l (i + 1) _ _ _ hl' hd.2 (he'.put hd0 undef) h
structure St where
  o : Oper
  a : Act
  w : World
  b : Bool
  u : Value
  w' : World
def ResAt (P : Program) (s : St) (w : World) : Prop := ResOk P ((execOp s.a.eval s.o).run P w) s.u w
def StepOk (P : Program) (T : TT) (all : Array Oper) (s : St) : Prop :=
  s.b = Region.wanted s.o (yielded all s.a.tmps) ∧ (s.b = true → Fine P T s.o s.a s.w s.u s.w') ∧ (s.b = false → s.u = undef ∧ s.w' = s.w)
noncomputable def isE (T : TT) (s : St) : Bool := s.b && decide (cls T s.o = .e)
noncomputable def isR (T : TT) (s : St) : Bool := s.b && decide (cls T s.o = .r)
def Chain (P : Program) (T : TT) (all : Array Oper) : List St → Act → World → Act → World → Prop
  | [], a, w, a', w' => a = a' ∧ w = w'
  | s :: ss, a, w, a', w' => s.a = a ∧ s.w = w ∧ StepOk P T all s ∧ Chain P T all ss (a.put s.o.dst s.u) s.w' a' w'
def Checks (P : Program) (T : TT) (bits : List Nat) : Nat → List St → List (Nat × World) → List (Nat × St) → Prop
  | _, [], _, _ => True
  | i, s :: ss, hist, pend => (isR T s = true → ∀ p ∈ hist, unord bits p.1 i = true → ResAt P s p.2) ∧ (isE T s = true → ∀ q ∈ pend, unord bits q.1 i = true → ResAt P q.2 s.w') ∧
      Checks P T bits (i + 1) ss (if isE T s then (i, s.w) :: hist else hist) (if isR T s then (i, s) :: pend else pend)
inductive All2 {α β : Type} (R : α → β → Prop) : List α → List β → Prop
  | nil : All2 R [] []
  | cons {a : α} {b : β} {as : List α} {bs : List β} : R a b → All2 R as bs → All2 R (a :: as) (b :: bs)
theorem ck_inv {α : Type} {r : α} {x : Option Value} {v : Value} {y : Option α} (h : ck x v y = some r) : x = some v ∧ y = some r := by
  unfold ck at h; split at h
  · rename_i hx; exact ⟨hx, h⟩
  · cases h
theorem again_inv (hT : TOk P T) (hO : OOk P O) (he : EnvOk N e a) {o : Oper} (hc : cls T o = .r) {v : Value} (h : again P T O o e w = some v) : ResOk P ((execOp a.eval o).run P w) v w := by
  obtain ⟨u, w', h, hf⟩ := opE_inv hT hO he h
  injection h with h; subst h
  have := hf.2.2 hc; subst this
  exact hf.1
theorem ckBack_inv {α : Type} {r : α} (hT : TOk P T) (hO : OOk P O) (he : EnvOk N e a) {o : Oper} (hc : cls T o = .r) {v : Value} {bits : List Nat} {i : Nat} : ∀ (hist : List (Nat × World)) {y : Option α}, ckBack P T O bits i o e v hist y = some r →
    y = some r ∧ ∀ p ∈ hist, unord bits p.1 i = true → ResOk P ((execOp a.eval o).run P p.2) v p.2
  | [], y, h => ⟨h, by simp⟩
  | p :: hist, y, h => by
    have h : cond (unord bits p.1 i) (ck (again P T O o e p.2) v (ckBack P T O bits i o e v hist y)) (ckBack P T O bits i o e v hist y) = some r := h
    cases hu : unord bits p.1 i with
    | true =>
      rw [hu] at h
      obtain ⟨h1, h2⟩ := ck_inv h
      obtain ⟨h3, h4⟩ := ckBack_inv hT hO he hc hist h2
      refine ⟨h3, fun q hq hq' => ?_⟩
      rcases List.mem_cons.1 hq with rfl | hq
      · exact again_inv hT hO he hc h1
      · exact h4 q hq hq'
    | false =>
      rw [hu] at h
      obtain ⟨h3, h4⟩ := ckBack_inv hT hO he hc hist h
      refine ⟨h3, fun q hq hq' => ?_⟩
      rcases List.mem_cons.1 hq with rfl | hq
      · rw [hu] at hq'; cases hq'
      · exact h4 q hq hq'
def PendOk (P : Program) (T : TT) (N : Nat) (p : Pend) (q : Nat × St) : Prop := p.at_ = q.1 ∧ p.o = q.2.o ∧ p.v = q.2.u ∧ EnvOk N p.e q.2.a ∧ cls T p.o = .r
theorem ckFore_inv {α : Type} {r : α} (hT : TOk P T) (hO : OOk P O) {bits : List Nat} {i : Nat} : ∀ (pend : List Pend) (qs : List (Nat × St)) {y : Option α}, All2 (PendOk P T N) pend qs → ckFore P T O bits i w pend y = some r →
    y = some r ∧ ∀ q ∈ qs, unord bits q.1 i = true → ResAt P q.2 w
  | [], qs, y, hp, h => by cases hp; exact ⟨h, by simp⟩
  | p :: pend, qs, y, hp, h => by
    cases hp with
    | cons hp0 hp =>
      rename_i q qs
      have h : cond (unord bits p.at_ i) (ck (again P T O p.o p.e w) p.v (ckFore P T O bits i w pend y)) (ckFore P T O bits i w pend y) = some r := h
      obtain ⟨e1, e2, e3, e4, e5⟩ := hp0
      cases hu : unord bits p.at_ i with
      | true =>
        rw [hu] at h
        obtain ⟨h1, h2⟩ := ck_inv h
        obtain ⟨h3, h4⟩ := ckFore_inv hT hO pend qs hp h2
        refine ⟨h3, fun z hz hz' => ?_⟩
        rcases List.mem_cons.1 hz with rfl | hz
        · have := again_inv hT hO e4 e5 h1
          rw [e2, e3] at this; exact this
        · exact h4 z hz hz'
      | false =>
        rw [hu] at h
        obtain ⟨h3, h4⟩ := ckFore_inv hT hO pend qs hp h
        refine ⟨h3, fun z hz hz' => ?_⟩
        rcases List.mem_cons.1 hz with rfl | hz
        · rw [← e1, hu] at hz'; cases hz'
        · exact h4 z hz hz'
theorem regD_inv (hT : TOk P T) (hO : OOk P O) {bits : List Nat} {all : Array Oper} {k : K} :
    ∀ (l : List Oper) (i : Nat) (e : Env) (a : Act) (w : World) (hist : List (Nat × World)) (pend : List Pend) (qs : List (Nat × St)), okDst N l = true → EnvOk N e a → All2 (PendOk P T N) pend qs →
      regD P T O bits all l i e w hist pend k = some r → ∃ ss : List St, ss.map (·.o) = l ∧ ∃ e' a' w', EnvOk N e' a' ∧ k e' w' = some r ∧ Chain P T all ss a w a' w' ∧ Checks P T bits i ss hist qs
  | [], i, e, a, w, hist, pend, qs, _, he, _, h => ⟨[], rfl, e, a, w, he, h, ⟨rfl, rfl⟩, trivial⟩
  | o :: l, i, e, a, w, hist, pend, qs, hd, he, hp, h => by
    simp only [okDst, List.all_cons, Bool.and_eq_true] at hd
    have hd0 : ∀ x, o.dst = some x → x < N := fun x hx => by have := hd.1; rw [hx] at this; exact Nat.le_of_ble_eq_true this
    rw [regD_cons] at h
    obtain ⟨e1, he1, h⟩ := guarded_inv he h
    cases hw : Region.wanted o (yielded all a.tmps) with
    | false =>
      rw [hw, cond_false] at h
      obtain ⟨ss, h1, e', a', w', h2, h3, h4, h5⟩ := regD_inv hT hO l (i + 1) _ _ _ hist pend qs hd.2 (he1.put hd0 undef) hp h
      refine ⟨⟨o, a, w, false, undef, w⟩ :: ss, by simp [h1], e', a', w', h2, h3, ⟨rfl, rfl, ⟨hw.symm, by simp, fun _ => ⟨rfl, rfl⟩⟩, h4⟩, ?_⟩
      exact ⟨by simp [isR], by simp [isE], by simpa [isE, isR] using h5⟩
    | true =>
      rw [hw, cond_true] at h
      obtain ⟨v, w1, h, hf⟩ := opE_inv hT hO he1 h
      cases hc : cls T o with
      | v =>
        simp only [hc] at h
        have hw1 := (hf.2.1 hc).1
        subst hw1
        obtain ⟨ss, h1, e', a', w', h2, h3, h4, h5⟩ := regD_inv hT hO l (i + 1) _ _ _ hist pend qs hd.2 (he1.put hd0 v) hp h
        refine ⟨⟨o, a, w1, true, v, w1⟩ :: ss, by simp [h1], e', a', w', h2, h3, ⟨rfl, rfl, ⟨hw.symm, fun _ => hf, by simp⟩, h4⟩, ?_⟩
        exact ⟨by simp [isR, hc], by simp [isE, hc], by simpa [isE, isR, hc] using h5⟩
      | r =>
        simp only [hc] at h
        have hw1 := hf.2.2 hc
        subst hw1
        obtain ⟨h, hb⟩ := ckBack_inv hT hO he1 hc hist h
        obtain ⟨ss, h1, e', a', w', h2, h3, h4, h5⟩ := regD_inv hT hO l (i + 1) _ _ _ hist _ ((i, ⟨o, a, w1, true, v, w1⟩) :: qs) hd.2 (he1.put hd0 v) (.cons ⟨rfl, rfl, rfl, he1, hc⟩ hp) h
        refine ⟨⟨o, a, w1, true, v, w1⟩ :: ss, by simp [h1], e', a', w', h2, h3, ⟨rfl, rfl, ⟨hw.symm, fun _ => hf, by simp⟩, h4⟩, ?_⟩
        exact ⟨fun _ p hp hu => hb p hp hu, by simp [isE, hc], by simpa [isE, isR, hc] using h5⟩
      | e =>
        simp only [hc] at h
        obtain ⟨h, hb⟩ := ckFore_inv hT hO pend qs hp h
        obtain ⟨ss, h1, e', a', w', h2, h3, h4, h5⟩ := regD_inv hT hO l (i + 1) _ _ _ ((i, w) :: hist) pend qs hd.2 (he1.put hd0 v) hp h
        refine ⟨⟨o, a, w, true, v, w1⟩ :: ss, by simp [h1], e', a', w', h2, h3, ⟨rfl, rfl, ⟨hw.symm, fun _ => hf, by simp⟩, h4⟩, ?_⟩
        exact ⟨by simp [isR, hc], fun _ q hq hu => hb q hq hu, by simpa [isE, isR, hc] using h5⟩
end
end Go.Proofs.YtdcdgmiojlldaaaDoor.Big
/- A region that draws: whatever order comes up, it ends where the text's order ends. -/
namespace Go.Proofs.YtdcdgmiojlldaaaDoor.Big
open Go
set_option linter.unusedVariables false
set_option linter.unusedSimpArgs false
noncomputable def chkR (T : TT) (bits : List Nat) (all : Array Oper) : Bool :=
  Region.noSelect all &&
  (List.range all.size).all fun j => match all[j]? with
    | some oj =>
      (oj.after.all fun e => !Region.binds .any e || Nat.blt e.on j) &&
      (List.range all.size).all fun i =>
        cond ((bits.getD j 0).testBit i)
          (Nat.blt i j && oj.after.any fun e => Region.binds .any e && (e.on == i || (bits.getD e.on 0).testBit i))
          (!Nat.blt i j || match all[i]? with
            | some oi => oi.apart all oj && !(decide (cls T oi = .e) && decide (cls T oj = .e))
            | none => true)
    | none => true
structure RegOk (T : TT) (bits : List Nat) (all : Array Oper) : Prop where
  nosel : ∀ (j : Nat) (o : Oper) cs b, all[j]? = some o → o.op ≠ .select cs b
  back : ∀ (j : Nat) (o : Oper), all[j]? = some o → ∀ e ∈ o.after, Region.binds .any e = true → e.on < j
  bit : ∀ (j i : Nat) (o : Oper), all[j]? = some o → i < all.size → (bits.getD j 0).testBit i = true → i < j ∧ ∃ e ∈ o.after, Region.binds .any e = true ∧ (e.on = i ∨ (bits.getD e.on 0).testBit i = true)
  apart : ∀ (i j : Nat) (oi oj : Oper), all[i]? = some oi → all[j]? = some oj → i < j → (bits.getD j 0).testBit i = false → oi.apart all oj = true ∧ ¬(cls T oi = .e ∧ cls T oj = .e)
theorem chkR_ok {T : TT} {bits : List Nat} {all : Array Oper} (h : chkR T bits all = true) : RegOk T bits all := by
  simp only [chkR, Bool.and_eq_true, List.all_eq_true, List.mem_range] at h
  obtain ⟨h0, h⟩ := h
  have lt : ∀ {j : Nat} {o : Oper}, all[j]? = some o → j < all.size := fun hj => (Array.getElem?_eq_some_iff.1 hj).1
  refine ⟨Region.noSelect_spec h0, fun j o hj e he hb => ?_, fun j i o hj hi ht => ?_, fun i j oi oj hi hj hij ht => ?_⟩
  · have := h j (lt hj)
    simp only [hj, Bool.and_eq_true] at this
    have := Array.all_eq_true_iff_forall_mem.1 this.1 e he
    simp only [hb, Bool.not_true, Bool.false_or] at this
    exact Nat.le_of_ble_eq_true this
  · have := h j (lt hj)
    simp only [hj, Bool.and_eq_true, List.all_eq_true, List.mem_range] at this
    have := this.2 i hi
    rw [ht, cond_true] at this
    simp only [Bool.and_eq_true] at this
    refine ⟨Nat.le_of_ble_eq_true this.1, ?_⟩
    obtain ⟨e, he, hb⟩ := Array.any_eq_true'.1 this.2
    simp only [Bool.and_eq_true, Bool.or_eq_true, beq_iff_eq] at hb
    exact ⟨e, he, hb.1, hb.2⟩
  · have := h j (lt hj)
    simp only [hj, Bool.and_eq_true, List.all_eq_true, List.mem_range] at this
    have := this.2 i (lt hi)
    rw [ht, cond_false] at this
    have hlt : Nat.blt i j = true := Nat.ble_eq_true_of_le hij
    simp only [hlt, Bool.not_true, Bool.false_or, hi, Bool.and_eq_true, Bool.not_eq_true', Bool.and_eq_false_iff, decide_eq_false_iff_not] at this
    exact ⟨this.1, fun h => this.2.elim (fun f => f h.1) (fun f => f h.2)⟩
section
variable {P : Program} {T : TT} {all : Array Oper} {bits : List Nat}
def actS (L : Nat → Bool) : Nat → List St → Act → Act
  | _, [], a => a
  | i, s :: ss, a => actS L (i + 1) ss (cond (L i) (a.put s.o.dst s.u) a)
noncomputable def wS (T : TT) (L : Nat → Bool) (wend : World) : Nat → List St → World
  | _, [] => wend
  | i, s :: ss => cond (isE T s && !L i) s.w (wS T L wend (i + 1) ss)
theorem put_size (a : Act) (d : Option Tmp) (v : Value) : (a.put d v).tmps.size = a.tmps.size := by cases d <;> simp [Act.put]
theorem put_get (a : Act) (d : Option Tmp) (v : Value) {t : Nat} (h : d ≠ some t) : (a.put d v).tmps[t]? = a.tmps[t]? := by
  cases d with
  | none => rfl
  | some d => simp only [Act.put]; exact Array.getElem?_setIfInBounds_ne (fun e => h (by rw [e]))
theorem put_congr {a a' : Act} (hs : a.tmps.size = a'.tmps.size) (d : Option Tmp) (v : Value) {t : Nat} (h : a.tmps[t]? = a'.tmps[t]?) : (a.put d v).tmps[t]? = (a'.put d v).tmps[t]? := by
  by_cases hd : d = some t
  · subst hd; simp only [Act.put, Array.getElem?_setIfInBounds_self, hs]
  · rw [put_get _ _ _ hd, put_get _ _ _ hd, h]
theorem actS_get {L L' : Nat → Bool} {t : Nat} : ∀ (ss : List St) (i : Nat) (a a' : Act), a.tmps.size = a'.tmps.size → a.tmps[t]? = a'.tmps[t]? →
    (∀ (j : Nat) (s : St), ss[j]? = some s → s.o.dst = some t → L (i + j) = L' (i + j)) → (actS L i ss a).tmps[t]? = (actS L' i ss a').tmps[t]?
  | [], i, a, a', hs, h, _ => h
  | s :: ss, i, a, a', hs, h, hl => by
    simp only [actS]
    refine actS_get ss (i + 1) _ _ ?_ ?_ fun j s' hj hd => by have := hl (j + 1) s' (by simpa using hj) hd; rwa [show i + (j + 1) = i + 1 + j by omega] at this
    · cases L i <;> cases L' i <;> simp [put_size, hs]
    · by_cases hd : s.o.dst = some t
      · have := hl 0 s (by simp) hd
        simp only [Nat.add_zero] at this
        rw [this]
        cases L' i
        · exact h
        · exact put_congr hs _ _ h
      · cases L i <;> cases L' i <;> simp [put_get _ _ _ hd, h]
theorem actS_put {L : Nat → Bool} {d : Option Tmp} {v : Value} : ∀ (ss : List St) (i : Nat) (a : Act), (∀ (j : Nat) (s : St), ss[j]? = some s → L (i + j) = true → ∀ x, d = some x → s.o.dst ≠ some x) → actS L i ss (a.put d v) = (actS L i ss a).put d v
  | [], _, _, _ => rfl
  | s :: ss, i, a, h => by
    simp only [actS]
    have hr := fun a => actS_put (d := d) (v := v) ss (i + 1) a fun j s' hj hl => h (j + 1) s' (by simpa using hj) (by rw [show i + (j + 1) = i + 1 + j by omega]; exact hl)
    cases hL : L i with
    | false => exact hr a
    | true =>
      simp only [cond_true]
      rw [Act.put_comm a v s.u (h 0 s (by simp) (by simpa using hL))]
      exact hr _
theorem actS_more {L L' : Nat → Bool} {m : Nat} {sm : St} (hm : ∀ k, L' k = (L k || k == m)) (hn : L m = false) : ∀ (ss : List St) (i : Nat) (a : Act), i ≤ m → ss[m - i]? = some sm →
    (∀ (j : Nat) (s : St), ss[j]? = some s → m < i + j → L (i + j) = true → ∀ x, sm.o.dst = some x → s.o.dst ≠ some x) → actS L' i ss a = (actS L i ss a).put sm.o.dst sm.u
  | [], _, _, _, h, _ => by simp at h
  | s :: ss, i, a, hi, h, hx => by
    simp only [actS]
    by_cases he : i = m
    · subst he
      simp only [Nat.sub_self, List.getElem?_cons_zero, Option.some.injEq] at h
      subst h
      have hc : ∀ (l : List St) (k : Nat) (a : Act), i < k → actS L' k l a = actS L k l a := by
        intro l; induction l with
        | nil => intros; rfl
        | cons x l ih =>
          intro k a hk
          simp only [actS]
          rw [ih _ _ (by omega), hm k, show (k == i) = false by simp; omega, Bool.or_false]
      rw [hc _ _ _ (by omega), hm i, hn]
      simp only [beq_self_eq_true, Bool.or_true, cond_true, cond_false]
      exact actS_put ss (i + 1) a fun j s' hj hl => hx (j + 1) s' (by simpa using hj) (by omega) (by rw [show i + (j + 1) = i + 1 + j by omega]; exact hl)
    · rw [hm i, show (i == m) = false by simp [he], Bool.or_false]
      refine actS_more hm hn ss (i + 1) _ (by omega) ?_ fun j s' hj hlt hl => hx (j + 1) s' (by simpa using hj) (by omega) (by rw [show i + (j + 1) = i + 1 + j by omega]; exact hl)
      rw [show m - i = (m - (i + 1)) + 1 by omega] at h
      simpa using h
theorem actS_none : ∀ (ss : List St) (i : Nat) (a : Act) (L : Nat → Bool), (∀ k, i ≤ k → L k = false) → actS L i ss a = a
  | [], _, _, _, _ => rfl
  | s :: ss, i, a, L, h => by simp only [actS, h i (Nat.le_refl i), cond_false]; exact actS_none ss (i + 1) a L fun k hk => h k (by omega)
theorem Chain.step : ∀ {ss : List St} {a w a' w'}, Chain P T all ss a w a' w' → ∀ (j : Nat) (s : St), ss[j]? = some s → StepOk P T all s
  | [], _, _, _, _, _, j, s, h => by simp at h
  | x :: ss, a, w, a', w', hc, 0, s, h => by simp at h; subst h; exact hc.2.2.1
  | x :: ss, a, w, a', w', hc, j + 1, s, h => Chain.step hc.2.2.2 j s (by simpa using h)
theorem Chain.at_ : ∀ {ss : List St} {a w a' w'}, Chain P T all ss a w a' w' → ∀ (i j : Nat) (s : St), ss[j]? = some s → s.a = actS (fun k => decide (k < i + j)) i ss a
  | [], _, _, _, _, _, _, j, s, h => by simp at h
  | x :: ss, a, w, a', w', hc, i, 0, s, h => by
    simp at h; subst h
    rw [hc.1, actS_none _ _ _ _ fun k hk => by simp; omega]
  | x :: ss, a, w, a', w', hc, i, j + 1, s, h => by
    simp only [actS]
    rw [show decide (i < i + (j + 1)) = true by simp, cond_true, show i + (j + 1) = i + 1 + j by omega]
    exact Chain.at_ hc.2.2.2 (i + 1) j s (by simpa using h)
theorem Chain.end_ : ∀ {ss : List St} {a w a' w'}, Chain P T all ss a w a' w' → ∀ (L : Nat → Bool) (i : Nat), (∀ j, j < ss.length → L (i + j) = true) → actS L i ss a = a'
  | [], _, _, _, _, hc, _, _, _ => hc.1
  | x :: ss, a, w, a', w', hc, L, i, h => by
    simp only [actS]
    have h0 := h 0 (by simp)
    simp only [Nat.add_zero] at h0
    rw [h0, cond_true]
    exact Chain.end_ hc.2.2.2 L (i + 1) fun j hj => by have := h (j + 1) (by simp; omega); rwa [show i + (j + 1) = i + 1 + j by omega] at this
theorem StepOk.still {s : St} (h : StepOk P T all s) (he : isE T s = false) : s.w' = s.w := by
  obtain ⟨_, h1, h2⟩ := h
  cases hb : s.b with
  | false => exact (h2 hb).2
  | true =>
    have hf := h1 hb
    simp only [isE, hb, Bool.true_and, decide_eq_false_iff_not] at he
    cases hc : cls T s.o with
    | v => exact (hf.2.1 hc).1
    | r => exact hf.2.2 hc
    | e => exact absurd hc he
theorem wS_start : ∀ {ss : List St} {a w a' w'}, Chain P T all ss a w a' w' → ∀ (L : Nat → Bool) (i : Nat), (∀ (j : Nat) (s : St), ss[j]? = some s → isE T s = true → L (i + j) = false) → wS T L w' i ss = w
  | [], _, _, _, _, hc, _, _, _ => hc.2.symm
  | x :: ss, a, w, a', w', hc, L, i, h => by
    simp only [wS]
    cases hx : isE T x with
    | true =>
      have h0 := h 0 x (by simp) hx
      simp only [Nat.add_zero] at h0
      rw [h0]
      simpa using hc.2.1
    | false =>
      simp only [Bool.false_and, cond_false]
      rw [wS_start hc.2.2.2 L (i + 1) fun j s hj he => by have := h (j + 1) s (by simpa using hj) he; rwa [show i + (j + 1) = i + 1 + j by omega] at this]
      rw [hc.2.2.1.still hx, hc.2.1]
theorem wS_end {wend : World} : ∀ (ss : List St) (L : Nat → Bool) (i : Nat), (∀ j, j < ss.length → L (i + j) = true) → wS T L wend i ss = wend
  | [], _, _, _ => rfl
  | x :: ss, L, i, h => by
    have h0 := h 0 (by simp)
    simp only [Nat.add_zero] at h0
    simp only [wS, h0, Bool.not_true, Bool.and_false, cond_false]
    exact wS_end ss L (i + 1) fun j hj => by have := h (j + 1) (by simp; omega); rwa [show i + (j + 1) = i + 1 + j by omega] at this
theorem wS_same {wend : World} {L L' : Nat → Bool} : ∀ (ss : List St) (i : Nat), (∀ (j : Nat) (s : St), ss[j]? = some s → isE T s = true → L (i + j) = L' (i + j)) → wS T L wend i ss = wS T L' wend i ss
  | [], _, _ => rfl
  | x :: ss, i, h => by
    simp only [wS]
    have ih : wS T L wend (i + 1) ss = wS T L' wend (i + 1) ss := wS_same ss (i + 1) fun j s hj he => by have := h (j + 1) s (by simpa using hj) he; rwa [show i + (j + 1) = i + 1 + j by omega] at this
    cases hx : isE T x with
    | true => have := h 0 x (by simp) hx; simp only [Nat.add_zero] at this; rw [this, ih]
    | false => rw [ih, Bool.false_and, Bool.false_and]
theorem wS_E {m : Nat} {sm : St} (he : isE T sm = true) : ∀ {ss : List St} {a w a' w'}, Chain P T all ss a w a' w' → ∀ (L L' : Nat → Bool) (i : Nat), i ≤ m → ss[m - i]? = some sm → L m = false → L' m = true →
    (∀ (j : Nat) (s : St), ss[j]? = some s → isE T s = true → i + j < m → L (i + j) = true ∧ L' (i + j) = true) → (∀ (j : Nat) (s : St), ss[j]? = some s → isE T s = true → m < i + j → L' (i + j) = false) →
    wS T L w' i ss = sm.w ∧ wS T L' w' i ss = sm.w'
  | [], _, _, _, _, _, _, _, _, _, h, _, _, _, _ => by simp at h
  | x :: ss, a, w, a', w', hc, L, L', i, hi, h, h1, h2, h3, h4 => by
    simp only [wS]
    by_cases hm : i = m
    · subst hm
      simp only [Nat.sub_self, List.getElem?_cons_zero, Option.some.injEq] at h
      subst h
      simp only [he, h1, h2, Bool.not_false, Bool.and_self, cond_true, Bool.not_true, Bool.and_false, cond_false, true_and]
      exact wS_start hc.2.2.2 L' (i + 1) fun j s hj hs => by have := h4 (j + 1) s (by simpa using hj) hs (by omega); rwa [show i + (j + 1) = i + 1 + j by omega] at this
    · have hx : (isE T x && !L i) = false ∧ (isE T x && !L' i) = false := by
        cases hx : isE T x with
        | false => simp
        | true => have := h3 0 x (by simp) hx (by omega); simp only [Nat.add_zero] at this; simp [this.1, this.2]
      rw [hx.1, hx.2, cond_false, cond_false]
      refine wS_E he hc.2.2.2 L L' (i + 1) (by omega) ?_ h1 h2 (fun j s hj hs hlt => ?_) fun j s hj hs hlt => ?_
      · rw [show m - i = (m - (i + 1)) + 1 by omega] at h; simpa using h
      · have := h3 (j + 1) s (by simpa using hj) hs (by omega); rwa [show i + (j + 1) = i + 1 + j by omega] at this
      · have := h4 (j + 1) s (by simpa using hj) hs (by omega); rwa [show i + (j + 1) = i + 1 + j by omega] at this
theorem wS_X : ∀ {ss : List St} {a w a' w'}, Chain P T all ss a w a' w' → ∀ (L : Nat → Bool) (i : Nat), wS T L w' i ss = w ∨ ∃ (j : Nat) (s : St), ss[j]? = some s ∧ isE T s = true ∧ L (i + j) = true ∧ wS T L w' i ss = s.w'
  | [], _, _, _, _, hc, _, _ => .inl hc.2.symm
  | x :: ss, a, w, a', w', hc, L, i => by
    simp only [wS]
    have ih := wS_X hc.2.2.2 L (i + 1)
    cases hx : isE T x with
    | false =>
      simp only [Bool.false_and, cond_false]
      rcases ih with ih | ⟨j, s, h1, h2, h3, h4⟩
      · exact .inl (by rw [ih, hc.2.2.1.still hx, hc.2.1])
      · exact .inr ⟨j + 1, s, by simpa using h1, h2, by rw [show i + (j + 1) = i + 1 + j by omega]; exact h3, h4⟩
    | true =>
      cases hL : L i with
      | false => exact .inl (by simpa using hc.2.1)
      | true =>
        simp only [Bool.not_true, Bool.and_false, cond_false]
        rcases ih with ih | ⟨j, s, h1, h2, h3, h4⟩
        · exact .inr ⟨0, x, by simp, hx, by simpa using hL, ih⟩
        · exact .inr ⟨j + 1, s, by simpa using h1, h2, by rw [show i + (j + 1) = i + 1 + j by omega]; exact h3, h4⟩
theorem wS_R {m : Nat} {sm : St} (hr : isE T sm = false) : ∀ {ss : List St} {a w a' w'}, Chain P T all ss a w a' w' → ∀ (L : Nat → Bool) (i : Nat), i ≤ m → ss[m - i]? = some sm →
    wS T L w' i ss = sm.w ∨ (∃ (j : Nat) (s : St), ss[j]? = some s ∧ isE T s = true ∧ i + j < m ∧ L (i + j) = false ∧ wS T L w' i ss = s.w) ∨
      ∃ (j : Nat) (s : St), ss[j]? = some s ∧ isE T s = true ∧ m < i + j ∧ L (i + j) = true ∧ wS T L w' i ss = s.w'
  | [], _, _, _, _, _, _, _, _, h => by simp at h
  | x :: ss, a, w, a', w', hc, L, i, hi, h => by
    by_cases hm : i = m
    · subst hm
      simp only [Nat.sub_self, List.getElem?_cons_zero, Option.some.injEq] at h
      subst h
      rcases wS_X hc L i with h | ⟨j, s, h1, h2, h3, h4⟩
      · exact .inl (by rw [h, hc.2.1])
      · refine .inr (.inr ⟨j, s, h1, h2, ?_, h3, h4⟩)
        cases j with
        | zero => simp at h1; subst h1; rw [hr] at h2; cases h2
        | succ j => omega
    · simp only [wS]
      have ih := wS_R (m := m) hr hc.2.2.2 L (i + 1) (by omega) (by rw [show m - i = (m - (i + 1)) + 1 by omega] at h; simpa using h)
      cases hx : (isE T x && !L i) with
      | true =>
        simp only [Bool.and_eq_true, Bool.not_eq_true'] at hx
        exact .inr (.inl ⟨0, x, by simp, hx.1, by omega, by simpa using hx.2, rfl⟩)
      | false =>
        simp only [cond_false]
        rcases ih with ih | ⟨j, s, h1, h2, h3, h4, h5⟩ | ⟨j, s, h1, h2, h3, h4, h5⟩
        · exact .inl ih
        · exact .inr (.inl ⟨j + 1, s, by simpa using h1, h2, by omega, by rw [show i + (j + 1) = i + 1 + j by omega]; exact h4, h5⟩)
        · exact .inr (.inr ⟨j + 1, s, by simpa using h1, h2, by omega, by rw [show i + (j + 1) = i + 1 + j by omega]; exact h4, h5⟩)
theorem Checks.back : ∀ {ss : List St} {i : Nat} {hist pend}, Checks P T bits i ss hist pend → ∀ (m : Nat) (sm : St), ss[m]? = some sm → isR T sm = true → 
    (∀ p ∈ hist, unord bits p.1 (i + m) = true → ResAt P sm p.2) ∧ ∀ (j : Nat) (s : St), ss[j]? = some s → isE T s = true → j < m → unord bits (i + j) (i + m) = true → ResAt P sm s.w
  | [], _, _, _, _, m, sm, h, _ => by simp at h
  | x :: ss, i, hist, pend, hc, 0, sm, h, hr => by
    simp at h; subst h
    exact ⟨fun p hp hu => hc.1 hr p hp hu, fun j s _ _ hj => absurd hj (by omega)⟩
  | x :: ss, i, hist, pend, hc, m + 1, sm, h, hr => by
    obtain ⟨h1, h2⟩ := Checks.back hc.2.2 m sm (by simpa using h) hr
    rw [show i + 1 + m = i + (m + 1) by omega] at h1 h2
    refine ⟨fun p hp hu => h1 p (by split <;> simp [hp]) hu, fun j s hj he hlt hu => ?_⟩
    cases j with
    | zero =>
      simp at hj; subst hj
      exact h1 (i, x.w) (by simp [he]) (by simpa using hu)
    | succ j => exact h2 j s (by simpa using hj) he (by omega) (by rwa [show i + 1 + j = i + (j + 1) by omega])
theorem Checks.fore : ∀ {ss : List St} {i : Nat} {hist pend}, Checks P T bits i ss hist pend → ∀ (m : Nat) (sm : St), ss[m]? = some sm → isE T sm = true → 
    (∀ q ∈ pend, unord bits q.1 (i + m) = true → ResAt P q.2 sm.w') ∧ ∀ (j : Nat) (s : St), ss[j]? = some s → isR T s = true → j < m → unord bits (i + j) (i + m) = true → ResAt P s sm.w'
  | [], _, _, _, _, m, sm, h, _ => by simp at h
  | x :: ss, i, hist, pend, hc, 0, sm, h, hr => by
    simp at h; subst h
    exact ⟨fun p hp hu => hc.2.1 hr p hp hu, fun j s _ _ hj => absurd hj (by omega)⟩
  | x :: ss, i, hist, pend, hc, m + 1, sm, h, hr => by
    obtain ⟨h1, h2⟩ := Checks.fore hc.2.2 m sm (by simpa using h) hr
    rw [show i + 1 + m = i + (m + 1) by omega] at h1 h2
    refine ⟨fun p hp hu => h1 p (by split <;> simp [hp]) hu, fun j s hj he hlt hu => ?_⟩
    cases j with
    | zero =>
      simp at hj; subst hj
      exact h1 (i, x) (by simp [he]) (by simpa using hu)
    | succ j => exact h2 j s (by simpa using hj) he (by omega) (by rwa [show i + 1 + j = i + (j + 1) by omega])
end
end Go.Proofs.YtdcdgmiojlldaaaDoor.Big
/- A region that draws: its law. -/
namespace Go.Proofs.YtdcdgmiojlldaaaDoor.Big
open Go
set_option linter.unusedVariables false
set_option linter.unusedSimpArgs false
section
variable {P : Program} {T : TT} {O : Orc} {N : Nat} {all : Array Oper} {bits : List Nat}
theorem wanted_congr {o : Oper} {a a' : Act} (h : ∀ t ∈ o.looksAt all, a.tmps[t]? = a'.tmps[t]?) : Region.wanted o (yielded all a.tmps) = Region.wanted o (yielded all a'.tmps) := by
  unfold Region.wanted
  cases hg : o.guard with
  | none => rfl
  | some gw =>
    obtain ⟨g, want⟩ := gw
    have : yielded all a.tmps g = yielded all a'.tmps g := by
      unfold yielded
      cases ht : (all[g]?).bind (·.dst) with
      | none => rfl
      | some t => simp only [Option.bind_some, h t (by simp [Oper.looksAt, hg, ht])]
    simp only [this]
theorem exec_congr {o : Oper} {a a' : Act} (hs : ∀ cs b, o.op ≠ .select cs b) (h : ∀ t ∈ o.looksAt all, a.tmps[t]? = a'.tmps[t]?) : execOp a.eval o = execOp a'.eval o :=
  execOp_congr o hs fun x hx => by
    cases x with
    | tmp t =>
      have := h t (List.mem_append_left _ (List.mem_filterMap.2 ⟨.tmp t, by simpa using hx, rfl⟩))
      simp only [Act.eval, Array.getD_eq_getD_getElem?, this]
    | _ => rfl
theorem countP_lt {α : Type} {p q : α → Bool} : ∀ {l : List α} {x : α}, (∀ y, q y = true → p y = true) → x ∈ l → p x = true → q x = false → l.countP q < l.countP p
  | [], x, _, hx, _, _ => by simp at hx
  | y :: l, x, h, hx, hp, hq => by
    have hle : l.countP q ≤ l.countP p := List.countP_mono_left fun z _ hz => h z hz
    rcases List.mem_cons.1 hx with rfl | hx
    · simp [List.countP_cons, hp, hq]; omega
    · have ih := countP_lt h hx hp hq
      simp only [List.countP_cons]
      by_cases hy : q y = true
      · simp [hy, h y hy]; omega
      · simp [hy]; split <;> omega
structure Inv (T : TT) (bits : List Nat) (all : Array Oper) (ss : List St) (a0 : Act) (wend : World) (listed : Array Bool) (a : Act) (w : World) : Prop where
  size : listed.size = all.size
  down : ∀ i, listed.getD i false = true → ∀ j, j < all.size → (bits.getD i 0).testBit j = true → listed.getD j false = true
  act : a = actS (listed.getD · false) 0 ss a0
  world : w = wS T (listed.getD · false) wend 0 ss
theorem getD_other {listed : Array Bool} {i : Nat} (h : i < listed.size) : listed.getD i true = listed.getD i false := by simp [h]
theorem set_getD {listed : Array Bool} {m : Nat} (h : m < listed.size) (k : Nat) : (listed.setIfInBounds m true).getD k false = (listed.getD k false || k == m) := by
  by_cases hk : k = m
  · subst hk; simp [h]
  · rw [getD_set_ne false (Ne.symm hk)]; simp [hk]
theorem any_inv (hR : RegOk T bits all) {Q : Exit → Act → World → Prop} {ss : List St} {a0 aend : Act} {w0 wend : World} (hm : ss.map (·.o) = all.toList) (hc : Chain P T all ss a0 w0 aend wend) (hk : Checks P T bits 0 ss [] [])
    (hQ : Q .normal aend wend) : ∀ (fuel : Nat) (listed : Array Bool) (a : Act) (w : World), (List.range all.size).countP (fun i => !listed.getD i true) ≤ fuel → Inv T bits all ss a0 wend listed a w → wpAny P .any all Q fuel listed a w := by
  have hlen : ss.length = all.size := by have := congrArg List.length hm; simpa using this
  have hop : ∀ (i : Nat) (s : St), ss[i]? = some s → all[i]? = some s.o := fun i s h => by
    have : (ss.map (·.o))[i]? = some s.o := by simp [h]
    rw [hm] at this; simpa using this
  have hst : ∀ i, i < all.size → ∃ s, ss[i]? = some s := fun i hi => ⟨ss[i]'(by omega), by simp [hlen, hi]⟩
  have lt : ∀ {i : Nat} {s : St}, ss[i]? = some s → i < all.size := fun h => by have := (List.getElem?_eq_some_iff.1 h).1; omega
  -- none ready: all listed
  have hall : ∀ (listed : Array Bool) (a : Act) (w : World), Inv T bits all ss a0 wend listed a w → Region.ready .any all listed = [] → Q .normal a w := by
    intro listed a w hi hr
    have hl : ∀ i, i < all.size → listed.getD i false = true := by
      intro i
      induction i using Nat.strongRecOn with
      | ind i ih =>
        intro hlt
        cases hli : listed.getD i false with
        | true => rfl
        | false =>
          have : i ∈ Region.ready .any all listed := mem_ready.2 ⟨by rw [getD_other (by rw [hi.size]; exact hlt)]; exact hli, all[i], by simp [hlt], fun e he hb => by
            have := hR.back i all[i] (by simp [hlt]) e he hb
            exact ih e.on this (by omega)⟩
          rw [hr] at this; simp at this
    have e1 : a = aend := by rw [hi.act]; exact hc.end_ _ 0 fun j hj => by rw [Nat.zero_add]; exact hl j (by omega)
    have e2 : w = wend := by rw [hi.world]; exact wS_end _ _ _ fun j hj => by rw [Nat.zero_add]; exact hl j (by omega)
    rw [e1, e2]; exact hQ
  intro fuel
  induction fuel with
  | zero =>
    intro listed a w hf hi
    have hr : Region.ready .any all listed = [] := by
      rw [List.eq_nil_iff_forall_not_mem]
      intro i hmem
      have hmem' := mem_ready.1 hmem
      obtain ⟨h0, o, ho, _⟩ := hmem'
      have hlt := (Array.getElem?_eq_some_iff.1 ho).1
      have : 0 < (List.range all.size).countP (fun i => !listed.getD i true) := List.countP_pos_iff.2 ⟨i, by simp [hlt], by simp only [h0]; rfl⟩
      omega
    exact ⟨hr, hall listed a w hi hr⟩
  | succ fuel ih =>
    intro listed a w hf hi
    refine ⟨fun hr => hall listed a w hi hr, fun m hmem => ?_⟩
    obtain ⟨h0, o, ho, hpre⟩ := mem_ready.1 hmem
    have hlt := (Array.getElem?_eq_some_iff.1 ho).1
    have hltl : m < listed.size := by rw [hi.size]; exact hlt
    obtain ⟨sm, hsm⟩ := hst m hlt
    have hoo : o = sm.o := by have := hop m sm hsm; rw [ho] at this; exact Option.some.inj this
    have hun : listed.getD m false = false := by rw [← getD_other hltl]; exact h0
    -- what lies before is listed
    have hbit : ∀ j, j < all.size → (bits.getD m 0).testBit j = true → listed.getD j false = true := fun j hj hb => by
      obtain ⟨_, e, he, hbd, h⟩ := hR.bit m j o ho hj hb
      have hl := hpre e he hbd
      rcases h with rfl | h
      · exact hl
      · exact hi.down e.on hl j hj h
    -- a listed one behind it is not bound to it
    have hfore : ∀ (j : Nat) (s : St), ss[j]? = some s → m < j → listed.getD j false = true → sm.o.apart all s.o = true ∧ ¬(cls T sm.o = .e ∧ cls T s.o = .e) ∧ unord bits m j = true := fun j s hj hlt' hl => by
      have hb : (bits.getD j 0).testBit m = false := by
        cases hb : (bits.getD j 0).testBit m with
        | false => rfl
        | true => have := hi.down j hl m hlt hb; rw [hun] at this; cases this
      have := hR.apart m j sm.o s.o (hop m sm hsm) (hop j s hj) hlt' hb
      exact ⟨this.1, this.2, by simp only [unord, hb]; rfl⟩
    -- one ahead of it that is not listed is not bound to it
    have hback : ∀ (j : Nat) (s : St), ss[j]? = some s → j < m → listed.getD j false = false → s.o.apart all sm.o = true ∧ ¬(cls T s.o = .e ∧ cls T sm.o = .e) ∧ unord bits j m = true := fun j s hj hlt' hl => by
      have hb : (bits.getD m 0).testBit j = false := by
        cases hb : (bits.getD m 0).testBit j with
        | false => rfl
        | true => have := hbit j (lt hj) hb; rw [hl] at this; cases this
      have := hR.apart j m s.o sm.o (hop j s hj) (hop m sm hsm) hlt' hb
      exact ⟨this.1, this.2, by simp only [unord, hb]; rfl⟩
    -- its operands
    have hlook : ∀ t ∈ sm.o.looksAt all, a.tmps[t]? = sm.a.tmps[t]? := fun t ht => by
      rw [hi.act, hc.at_ 0 m sm hsm]
      refine actS_get ss 0 _ _ rfl rfl fun j s hj hd => ?_
      simp only [Nat.zero_add]
      rcases Nat.lt_trichotomy j m with h | h | h
      · rw [decide_eq_true h]
        cases hl : listed.getD j false with
        | true => rfl
        | false =>
          have := (Oper.apart_spec (hback j s hj h hl).1).1 t hd
          exact absurd ht this
      · subst h; rw [hun]; simp
      · rw [decide_eq_false (by omega)]
        cases hl : listed.getD j false with
        | false => rfl
        | true =>
          have := (Oper.apart_spec (hfore j s hj h hl).1).2.2 t hd
          exact absurd ht this
    have hexec : execOp a.eval sm.o = execOp sm.a.eval sm.o := exec_congr (hR.nosel m sm.o · · (hop m sm hsm)) hlook
    have hwant := wanted_congr (o := sm.o) (all := all) hlook
    have hso := hc.step m sm hsm
    -- the next state
    have hnext : ∀ w', (w' = wS T ((listed.setIfInBounds m true).getD · false) wend 0 ss) → wpAny P .any all Q fuel (listed.setIfInBounds m true) (a.put sm.o.dst sm.u) w' := fun w' hw' => by
      refine ih _ _ _ ?_ ⟨by simp [hi.size], fun i hl j hj hb => ?_, ?_, hw'⟩
      · have : (List.range all.size).countP (fun i => !(listed.setIfInBounds m true).getD i true) < (List.range all.size).countP (fun i => !listed.getD i true) :=
          countP_lt (x := m) (fun y hy => by
            by_cases hym : y = m
            · subst hym; simp [h0]
            · rwa [getD_set_ne true (Ne.symm hym)] at hy) (by simp [hlt]) (by simp only [h0]; rfl) (by simp [hltl])
        omega
      · by_cases him : i = m
        · subst him; exact getD_set_true (hbit j hj hb)
        · rw [getD_set_ne false (Ne.symm him)] at hl; exact getD_set_true (hi.down i hl j hj hb)
      · rw [hi.act]
        refine (actS_more (m := m) (set_getD hltl) hun ss 0 a0 (Nat.zero_le _) (by simpa using hsm) fun j s hj hlt' hl x hd => ?_).symm
        simp only [Nat.zero_add] at hlt' hl
        exact (Oper.apart_spec (hfore j s hj hlt' hl).1).2.1 x hd
    have hsame : isE T sm = false → w = wS T ((listed.setIfInBounds m true).getD · false) wend 0 ss := fun he => by
      rw [hi.world]
      refine wS_same ss 0 fun j s hj hs => ?_
      simp only [Nat.zero_add]
      have : j ≠ m := fun h => by subst h; rw [hsm] at hj; injection hj with hj; subst hj; rw [he] at hs; cases hs
      rw [getD_set_ne false (Ne.symm this)]
    unfold wpOp
    rw [ho]
    simp only []
    rw [hoo, hwant, ← hso.1]
    cases hb : sm.b with
    | false =>
      simp only [Bool.false_eq_true, if_false]
      have := hnext w (hsame (by simp [isE, hb]))
      rwa [(hso.2.2 hb).1] at this
    | true =>
      simp only [if_true]
      refine .inl ?_
      have hf := hso.2.1 hb
      cases hcl : cls T sm.o with
      | v =>
        refine ResOk.wp (v := sm.u) (w' := w) ?_ (hnext w (hsame (by simp [isE, hcl])))
        rw [hexec]; exact (hf.2.1 hcl).2 w
      | r =>
        have he : isE T sm = false := by simp [isE, hcl]
        have hr : isR T sm = true := by simp [isR, hb, hcl]
        refine ResOk.wp (v := sm.u) (w' := w) ?_ (hnext w (hsame he))
        rw [hexec, hi.world]
        rcases wS_R (m := m) he hc (listed.getD · false) 0 (Nat.zero_le _) (by simpa using hsm) with h | ⟨j, s, h1, h2, h3, h4, h5⟩ | ⟨j, s, h1, h2, h3, h4, h5⟩
        · rw [h]; have := hf.1; rwa [hf.2.2 hcl] at this
        · rw [h5]
          simp only [Nat.zero_add] at h3 h4
          have := (hk.back m sm hsm hr).2 j s h1 h2 h3 (by simpa using (hback j s h1 h3 h4).2.2)
          exact this
        · rw [h5]
          simp only [Nat.zero_add] at h3 h4
          exact (hk.fore j s h1 h2).2 m sm hsm hr h3 (by simpa using (hfore j s h1 h3 h4).2.2)
      | e =>
        have he : isE T sm = true := by simp [isE, hb, hcl]
        have hE : ∀ s, isE T s = true → cls T s.o = .e := fun s hs => by simp only [isE, Bool.and_eq_true, decide_eq_true_eq] at hs; exact hs.2
        have hset : ∀ j, j ≠ m → (listed.setIfInBounds m true).getD j false = listed.getD j false := fun j hj => getD_set_ne false (Ne.symm hj)
        have hahead : ∀ (j : Nat) (s : St), ss[j]? = some s → isE T s = true → j < m → listed.getD j false = true := fun j s hj hs hlt' => by
          cases hl : listed.getD j false with
          | true => rfl
          | false => exact absurd ⟨hE s hs, hcl⟩ (hback j s hj hlt' hl).2.1
        have hbehind : ∀ (j : Nat) (s : St), ss[j]? = some s → isE T s = true → m < j → listed.getD j false = false := fun j s hj hs hlt' => by
          cases hl : listed.getD j false with
          | false => rfl
          | true => exact absurd ⟨hcl, hE s hs⟩ (hfore j s hj hlt' hl).2.1
        obtain ⟨h1, h2⟩ := wS_E (m := m) he hc (listed.getD · false) ((listed.setIfInBounds m true).getD · false) 0 (Nat.zero_le _) (by simpa using hsm) hun (by simp [hltl])
          (fun j s hj hs hlt' => by
            simp only [Nat.zero_add] at hlt' ⊢
            rw [hset j (by omega)]
            exact ⟨hahead j s hj hs hlt', hahead j s hj hs hlt'⟩)
          (fun j s hj hs hlt' => by
            simp only [Nat.zero_add] at hlt' ⊢
            rw [hset j (by omega)]
            exact hbehind j s hj hs hlt')
        refine ResOk.wp (v := sm.u) (w' := sm.w') ?_ (hnext sm.w' h2.symm)
        rw [hexec, hi.world, h1]; exact hf.1
theorem regD_wp (hT : TOk P T) (hO : OOk P O) (hmix : P.follows .mixedOrders = true) {id : Nat} {e : Env} {a : Act} {w : World} {k : K} {r : Res} (hchk : chkR T bits all = true) (hd : okDst N all.toList = true) (he : EnvOk N e a)
    (h : regD P T O bits all all.toList 0 e w.drew [] [] k = some r) {Q : Exit → Act → World → Prop} (hQ : ∀ e' a' w', EnvOk N e' a' → k e' w' = some r → Q .normal a' w') : (Code.region id all true).wp P Q a w := by
  obtain ⟨ss, h1, e', a', w', h2, h3, h4, h5⟩ := regD_inv hT hO all.toList 0 e a w.drew [] [] [] hd he .nil h
  refine wp_region_any hmix (any_inv (chkR_ok hchk) h1 h4 h5 (hQ e' a' w' h2 h3) _ _ _ _ ?_ ⟨by simp, fun i hl => ?_, ?_, ?_⟩)
  · have := List.countP_le_length (p := fun i => !(Array.replicate all.size false).getD i true) (l := List.range all.size); simpa using this
  · exfalso; revert hl; simp [Array.getElem?_replicate]; split <;> simp
  · rw [actS_none]; intro k _; simp [Array.getElem?_replicate]; split <;> simp
  · rw [wS_start h4]; · rfl
    intro j s _ _; simp [Array.getElem?_replicate]; split <;> simp
end
end Go.Proofs.YtdcdgmiojlldaaaDoor.Big
/- A region that draws in which two effects stand in no order: either order is read; the world itself says which. -/
namespace Go.Proofs.YtdcdgmiojlldaaaDoor.Big
open Go
set_option linter.unusedVariables false
set_option linter.unusedSimpArgs false
def Wf (P : Program) (f : FuncId) (c : Code) (Q : Exit → Act → World → Prop) (a : Act) (w : World) : Prop :=
  ∀ (b : Frame) (k : List Item) (cs : List Frame), b.fn = f → ∃ e a' w', Q e a' w' ∧ Arrives P (lone (b.at a (.code c :: k)) cs w) b k cs e a' w'
section
variable {P : Program} {f : FuncId} {Q : Exit → Act → World → Prop} {a : Act} {w : World}
theorem wf_of {c : Code} (h : c.wp P Q a w) : Wf P f c Q a w := fun b k cs _ => h b k cs
theorem wf_mono {c : Code} {Q' : Exit → Act → World → Prop} (h : Wf P f c Q a w) (hq : ∀ e a w, Q e a w → Q' e a w) : Wf P f c Q' a w :=
  fun b k cs hb => let ⟨e, a', w', q, r⟩ := h b k cs hb; ⟨e, a', w', hq _ _ _ q, r⟩
theorem wf_seq {x y : Code} (h : Wf P f x (Exit.then (Wf P f y Q) Q) a w) : Wf P f (.seq x y) Q a w := by
  intro b k cs hb
  obtain ⟨e, a1, w1, hq, har⟩ := h b (.code y :: k) cs hb
  cases e with
  | normal =>
    obtain ⟨e2, a2, w2, hq2, har2⟩ := hq b k cs hb
    exact ⟨e2, a2, w2, hq2, .of_steps (.head step_seq har) har2⟩
  | exit id => exact ⟨_, a1, w1, hq, .of_steps (.one step_seq) (.pass (x := .code y) rfl (fun _ _ => .inl (by simp)) har)⟩
  | goto l => exact ⟨_, a1, w1, hq, .of_steps (.one step_seq) (.pass (x := .code y) rfl (fun _ _ => .inl (by simp)) har)⟩
  | ret => exact ⟨_, a1, w1, hq, .of_steps (.one step_seq) (.pass (x := .code y) rfl (fun _ _ => .inl (by simp)) har)⟩
  | panic ch => exact ⟨_, a1, w1, hq, .of_steps (.one step_seq) (.pass (x := .code y) rfl (fun _ _ => .inl (by simp)) har)⟩
  | outgrown => exact ⟨_, a1, w1, hq, .of_steps (.one step_seq) (.pass (x := .code y) rfl (fun _ _ => .inl (by simp)) har)⟩
theorem wf_cond {c : Operand} {x y : Code} {t : Bool} (hc : a.eval c = .bool t) (h : Wf P f (if t then x else y) Q a w) : Wf P f (.cond c x y) Q a w :=
  fun b k cs hb => let ⟨e, a', w', q, r⟩ := h b k cs hb; ⟨e, a', w', q, .of_steps (.one (step_cond hc)) r⟩
theorem wf_block {id : Nat} {c : Code} (h : Wf P f c (Exit.inBlock id Q) a w) : Wf P f (.block id c) Q a w := by
  intro b k cs hb
  obtain ⟨e, a1, w1, hq, har⟩ := h b (.inBlock id :: k) cs hb
  cases e with
  | normal => exact ⟨.normal, a1, w1, hq, .head step_block (Steps.trans har (.one step_inBlock))⟩
  | exit i =>
    by_cases hi : i = id
    · simp only [Exit.inBlock, hi, if_true] at hq
      exact ⟨.normal, a1, w1, hq, .head step_block (har k (by simp [exitTo, hi]))⟩
    · simp only [Exit.inBlock, hi, if_false] at hq
      refine ⟨.exit i, a1, w1, hq, fun k' hk => .head step_block (har k' ?_)⟩
      have : (id == i) = false := by simp; exact fun h => hi h.symm
      simp [exitTo, this, hk]
  | goto l => exact ⟨_, a1, w1, hq, fun k' hk => .head step_block (har k' (by simp [gotoIn, hk]))⟩
  | ret => exact ⟨_, a1, w1, hq, .of_steps (.one step_block) har⟩
  | panic ch => exact ⟨_, a1, w1, hq, .of_steps (.one step_block) har⟩
  | outgrown => exact ⟨_, a1, w1, hq, .of_steps (b := b) (k := k) (cs := cs) (e := .outgrown) (.one step_block) har⟩
theorem calls_of_wf {fn : Func} {c : Code} {args : Array Value} {R : Ending → World → Prop} (hf : P.funcs[f]? = some fn) (hb : fn.body = some c)
    (h : Wf P f c (bodyPost P fn R) { tmps := args ++ Array.replicate (fn.ntmps - args.size) undef, defers := [] } w) : Calls P f args w R := by
  intro cs
  have hen : Frame.enter P f args .normal = ({ (default : Frame) with fn := f, kind := .normal } : Frame).at { tmps := args ++ Array.replicate (fn.ntmps - args.size) undef, defers := [] } [.code c] := by
    simp [Frame.enter, Frame.at, hf, hb]
  obtain ⟨e, a', w', hq, har⟩ := h { (default : Frame) with fn := f, kind := .normal } [] cs rfl
  rw [← hen] at har
  cases e with
  | normal =>
    obtain ⟨hd, v, hr, hR⟩ := hq
    exact ⟨.returned v, w', _, hR, Steps.trans har (.one step_end), rfl, rfl, hd, rfl, fn, hf, hr⟩
  | ret =>
    obtain ⟨hd, v, hr, hR⟩ := hq
    obtain ⟨todo, hs⟩ := har
    exact ⟨.returned v, w', _, hR, hs, rfl, rfl, hd, rfl, fn, hf, hr⟩
  | panic chain =>
    obtain ⟨hd, hR⟩ := hq
    obtain ⟨todo, hs⟩ := har
    exact ⟨.panicked chain, w', _, hR, hs, rfl, rfl, hd, fn, hf⟩
  | exit id => exact hq.elim
  | goto l => exact hq.elim
  | outgrown => exact ⟨.outgrown, w', { (default : Frame) with fn := f, kind := .normal }, hq, har.resolve_left (by simp), rfl, trivial⟩
end
inductive Topo (ops : Array Oper) : Array Bool → List Nat → Prop
  | nil {L : Array Bool} : Region.ready .any ops L = [] → Topo ops L []
  | cons {L : Array Bool} {i : Nat} {s : List Nat} : i ∈ Region.ready .any ops L → Topo ops (L.setIfInBounds i true) s → Topo ops L (i :: s)
def Fst (p q : Nat) (L : Array Bool) (s : List Nat) : Prop := ∀ s1 s2, s = s1 ++ q :: s2 → p ∈ s1 ∨ L.getD p false = true
theorem before_true {p q : Nat} (L : Array Bool) (hne : p ≠ q) : ∀ {s : List Nat}, before p q s = true → Fst p q L s
  | [], _, s1, s2, h => by simp at h
  | i :: s, h, s1, s2, e => by
    unfold before at h
    cases s1 with
    | nil =>
      simp only [List.nil_append, List.cons.injEq] at e
      rw [e.1, if_neg (Ne.symm hne), if_pos rfl] at h; cases h
    | cons x s1 =>
      simp only [List.cons_append, List.cons.injEq] at e
      by_cases hi : i = p
      · left; rw [← e.1, hi]; exact List.mem_cons_self
      · by_cases hq : i = q
        · rw [if_neg hi, if_pos hq] at h; cases h
        · rw [if_neg hi, if_neg hq] at h
          exact (before_true L hne h s1 s2 e.2).imp (List.mem_cons_of_mem _) id
theorem before_false {p q : Nat} (L : Array Bool) (hne : p ≠ q) : ∀ {s : List Nat}, before p q s = false → Fst q p L s
  | [], h, s1, s2, e => by simp at e
  | i :: s, h, s1, s2, e => by
    unfold before at h
    by_cases hi : i = p
    · rw [if_pos hi] at h; cases h
    · rw [if_neg hi] at h
      cases s1 with
      | nil => simp only [List.nil_append, List.cons.injEq] at e; exact absurd e.1 hi
      | cons x s1 =>
        simp only [List.cons_append, List.cons.injEq] at e
        by_cases hq : i = q
        · left; rw [← e.1, hq]; exact List.mem_cons_self
        · rw [if_neg hq] at h
          exact (before_false L hne h s1 s2 e.2).imp (List.mem_cons_of_mem _) id
theorem Fst.cons {p q i : Nat} {L : Array Bool} {s : List Nat} (h : Fst p q L (i :: s)) (hp : p < L.size) : Fst p q (L.setIfInBounds i true) s ∧ (i = q → L.getD p false = true) := by
  refine ⟨fun s1 s2 e => ?_, fun e => by subst e; exact (h [] s rfl).resolve_left (by simp)⟩
  rcases h (i :: s1) s2 (by rw [e]; rfl) with h | h
  · rcases List.mem_cons.1 h with rfl | h
    · right; simp [hp]
    · exact .inl h
  · exact .inr (getD_set_true h)
theorem topo_go {ops : Array Oper} : ∀ (fuel t : Nat) (L : Array Bool), (List.range ops.size).countP (fun i => !L.getD i true) ≤ fuel → L.size = ops.size → Topo ops L (Region.linearise.go .any ops fuel t L [])
  | 0, t, L, hf, hs => by
    simp only [Region.linearise.go, List.reverse_nil]
    refine .nil ?_
    rw [List.eq_nil_iff_forall_not_mem]
    intro i hmem
    obtain ⟨h0, o, ho, _⟩ := mem_ready.1 hmem
    have hlt := (Array.getElem?_eq_some_iff.1 ho).1
    have : 0 < (List.range ops.size).countP (fun i => !L.getD i true) := List.countP_pos_iff.2 ⟨i, by simp [hlt], by simp only [h0]; rfl⟩
    omega
  | fuel + 1, t, L, hf, hs => by
    simp only [Region.linearise.go]
    change Topo ops L (match (Region.ready .any ops L)[t % (Region.ready .any ops L).length]? with
      | some i => Region.linearise.go .any ops fuel (t / (Region.ready .any ops L).length) (L.setIfInBounds i true) [i]
      | none => [].reverse)
    cases hi : (Region.ready .any ops L)[t % (Region.ready .any ops L).length]? with
    | none =>
      simp only [List.reverse_nil]
      refine .nil ?_
      cases hr : Region.ready .any ops L with
      | nil => rfl
      | cons x xs =>
        rw [hr] at hi
        have hlt : t % (x :: xs).length < (x :: xs).length := Nat.mod_lt _ (by simp)
        rw [List.getElem?_eq_none_iff] at hi
        omega
    | some i =>
      simp only []
      rw [linearise_go_acc, List.reverse_singleton, List.singleton_append]
      have hmem := List.mem_of_getElem? hi
      obtain ⟨h0, o, ho, _⟩ := mem_ready.1 hmem
      have hlt := (Array.getElem?_eq_some_iff.1 ho).1
      refine .cons hmem (topo_go fuel _ _ ?_ (by simp [hs]))
      have : (List.range ops.size).countP (fun j => !(L.setIfInBounds i true).getD j true) < (List.range ops.size).countP (fun j => !L.getD j true) :=
        countP_lt (x := i) (fun y hy => by
          by_cases hym : y = i
          · subst hym; simp [h0]
          · rwa [getD_set_ne true (Ne.symm hym)] at hy) (by simp [hlt]) (by simp only [h0]; rfl) (by simp [hs, hlt])
      omega
theorem topo_wp {P : Program} {ops : Array Oper} {Q : Exit → Act → World → Prop} : ∀ {s : List Nat} {L : Array Bool} {fuel : Nat} {a : Act} {w : World}, Topo ops L s → wpAny P .any ops Q fuel L a w → wpOps P ops Q s a w
  | [], L, fuel, a, w, h, hw => by
    cases h with
    | nil h =>
      cases fuel with
      | zero => exact hw.2
      | succ fuel => exact hw.1 h
  | i :: s, L, fuel, a, w, h, hw => by
    cases h with
    | cons hi h =>
      cases fuel with
      | zero => rw [hw.1] at hi; simp at hi
      | succ fuel =>
        rw [wpOps_cons]
        exact wpOp_mono (fun a w hw => topo_wp h hw) (hw.2 i hi)
def chkP (n : Nat) (ord : List Nat) (x y : Nat) (ops : Array Oper) : Bool :=
  Nat.beq ops.size n && Nat.beq ord.length n && Nat.blt x n && Nat.blt y n && !Nat.beq x y &&
  ((List.range n).all fun i => (match ord[ord.idxOf i]? with | some j => Nat.beq j i | none => false) && (match ord[i]? with | some j => Nat.blt j n && Nat.beq (ord.idxOf j) i | none => false)) &&
  ops.toList.all fun o => (o.after.toList.all fun e => Nat.blt e.on n) && (match o.guard with | some g => Nat.blt g.1 n | none => true)
structure PermOk (n : Nat) (ord : List Nat) (x y : Nat) (ops : Array Oper) : Prop where
  size : ops.size = n
  len : ord.length = n
  xlt : x < n
  ylt : y < n
  ne : x ≠ y
  inv : ∀ i, i < n → ord[ord.idxOf i]? = some i
  back : ∀ k, k < n → ∃ i, ord[k]? = some i ∧ i < n ∧ ord.idxOf i = k
  edge : ∀ (i : Nat) (o : Oper), ops[i]? = some o → ∀ e ∈ o.after, e.on < n
  guard : ∀ (i : Nat) (o : Oper) (g : Nat × Bool), ops[i]? = some o → o.guard = some g → g.1 < n
theorem chkP_ok {n : Nat} {ord : List Nat} {x y : Nat} {ops : Array Oper} (h : chkP n ord x y ops = true) : PermOk n ord x y ops := by
  simp only [chkP, Bool.and_eq_true, List.all_eq_true, List.mem_range] at h
  obtain ⟨⟨⟨⟨⟨⟨h1, h2⟩, h3⟩, h4⟩, h5⟩, h6⟩, h7⟩ := h
  have mem : ∀ {i : Nat} {o : Oper}, ops[i]? = some o → o ∈ ops.toList := fun h => by
    obtain ⟨hi, rfl⟩ := Array.getElem?_eq_some_iff.1 h
    simp
  refine ⟨Nat.eq_of_beq_eq_true h1, Nat.eq_of_beq_eq_true h2, Nat.le_of_ble_eq_true h3, Nat.le_of_ble_eq_true h4, fun e => by subst e; simp at h5, fun i hi => ?_, fun k hk => ?_, fun i o ho e he => ?_, fun i o g ho hg => ?_⟩
  · have := (h6 i hi).1
    split at this
    · rename_i j hj; rw [hj, Nat.eq_of_beq_eq_true this]
    · cases this
  · have := (h6 k hk).2
    split at this
    · rename_i j hj
      simp only [Bool.and_eq_true] at this
      exact ⟨j, hj, Nat.le_of_ble_eq_true this.1, Nat.eq_of_beq_eq_true this.2⟩
    · cases this
  · exact Nat.le_of_ble_eq_true ((h7 o (mem ho)).1 e (by simpa using he))
  · have := (h7 o (mem ho)).2
    rw [hg] at this
    exact Nat.le_of_ble_eq_true this
section
variable {n : Nat} {ord : List Nat} {x y : Nat} {ops : Array Oper} (hP : PermOk n ord x y ops)
include hP
theorem PermOk.has {i : Nat} (hi : i < n) : ∃ o, ops[i]? = some o := ⟨ops[i]'(by rw [hP.size]; exact hi), by simp [hP.size, hi]⟩
theorem PermOk.lt {i : Nat} (hi : i < n) : ord.idxOf i < n := by
  have := (List.getElem?_eq_some_iff.1 (hP.inv i hi)).1
  rw [hP.len] at this; exact this
theorem PermOk.inj {i j : Nat} (hi : i < n) (hj : j < n) (h : ord.idxOf i = ord.idxOf j) : i = j := by
  have h1 := hP.inv i hi
  rw [h, hP.inv j hj] at h1
  injection h1 with h1; exact h1.symm
theorem PermOk.get {i : Nat} {o : Oper} (ho : ops[i]? = some o) : (opsP ord x y ops)[ord.idxOf i]? = some (renO ord x y i o) := by
  have hi : i < n := by rw [← hP.size]; exact (Array.getElem?_eq_some_iff.1 ho).1
  simp [opsP, hP.inv i hi, Array.getD_eq_getD_getElem?, ho]
theorem PermOk.get' {k : Nat} {o' : Oper} (ho : (opsP ord x y ops)[k]? = some o') : ∃ i o, k = ord.idxOf i ∧ i < n ∧ ops[i]? = some o ∧ o' = renO ord x y i o := by
  have hk : k < n := by
    have := (Array.getElem?_eq_some_iff.1 ho).1
    simpa [opsP, hP.len] using this
  obtain ⟨i, h1, h2, h3⟩ := hP.back k hk
  obtain ⟨o, ho'⟩ := hP.has h2
  refine ⟨i, o, h3.symm, h2, ho', ?_⟩
  have := hP.get ho'
  rw [h3, ho] at this
  injection this
def RelL (n : Nat) (ord : List Nat) (L L' : Array Bool) : Prop := L.size = n ∧ L'.size = n ∧ ∀ i, i < n → L'.getD (ord.idxOf i) false = L.getD i false
omit hP in
theorem getD_in {L : Array Bool} {i : Nat} (h : i < L.size) : L.getD i true = L.getD i false := by simp [h]
theorem topo_ren : ∀ {s : List Nat} {L L' : Array Bool}, Topo ops L s → RelL n ord L L' → Fst x y L s → Topo (opsP ord x y ops) L' (s.map ord.idxOf)
  | [], L, L', h, hr, hf => by
    cases h with
    | nil h =>
      refine .nil ?_
      rw [List.eq_nil_iff_forall_not_mem]
      intro k hk
      obtain ⟨h0, o', ho', hpre⟩ := mem_ready.1 hk
      obtain ⟨i, o, rfl, hi, ho, rfl⟩ := hP.get' ho'
      have : i ∈ Region.ready .any ops L := mem_ready.2 ⟨by rw [getD_in (by rw [hr.1]; exact hi), ← hr.2.2 i hi, ← getD_in (by rw [hr.2.1]; exact hP.lt hi)]; exact h0, o, ho, fun e he hb => by
        have h1 := hpre (renE ord e) (by
          have : renE ord e ∈ o.after.map (renE ord) := Array.mem_map.2 ⟨e, he, rfl⟩
          unfold renO
          simp only
          cases Nat.beq i y
          · exact this
          · exact Array.mem_push.2 (.inl this)) hb
        have := hr.2.2 e.on (hP.edge i o ho e he)
        rw [← this]; exact h1⟩
      rw [h] at this; simp at this
  | i :: s, L, L', h, hr, hf => by
    cases h with
    | cons hi h =>
      obtain ⟨h0, o, ho, hpre⟩ := mem_ready.1 hi
      have hlt : i < n := by rw [← hP.size]; exact (Array.getElem?_eq_some_iff.1 ho).1
      obtain ⟨hf1, hf2⟩ := hf.cons (by rw [hr.1]; exact hP.xlt)
      refine .cons (mem_ready.2 ⟨?_, _, hP.get ho, fun e he hb => ?_⟩) (topo_ren h ⟨by simp [hr.1], by simp [hr.2.1], fun j hj => ?_⟩ hf1)
      · rw [getD_in (by rw [hr.2.1]; exact hP.lt hlt), hr.2.2 i hlt, ← getD_in (by rw [hr.1]; exact hlt)]; exact h0
      · have old : ∀ e ∈ o.after.map (renE ord), Region.binds .any e = true → L'.getD e.on false = true := fun e he hb => by
          obtain ⟨e0, he0, rfl⟩ := Array.mem_map.1 he
          have h1 := hpre e0 he0 hb
          have h2 := hr.2.2 e0.on (hP.edge i o ho e0 he0)
          rw [h1] at h2; exact h2
        unfold renO at he
        simp only at he
        cases hy : Nat.beq i y with
        | false => rw [hy] at he; exact old e he hb
        | true =>
          rw [hy] at he
          rcases Array.mem_push.1 he with he | rfl
          · exact old e he hb
          · have := hf2 (Nat.eq_of_beq_eq_true hy)
            show L'.getD (ord.idxOf x) false = true
            rw [hr.2.2 x hP.xlt]; exact this
      · by_cases hj' : j = i
        · subst hj'
          have hl := hP.lt hlt
          simp [hr.1, hr.2.1, hlt, hl]
        · rw [getD_set_ne false (Ne.symm hj'), getD_set_ne false fun e => hj' (hP.inj hlt hj e).symm]
          exact hr.2.2 j hj
theorem wanted_ren {i : Nat} {o : Oper} (ho : ops[i]? = some o) (a : Act) : Region.wanted (renO ord x y i o) (yielded (opsP ord x y ops) a.tmps) = Region.wanted o (yielded ops a.tmps) := by
  unfold Region.wanted renO
  simp only
  cases hg : o.guard with
  | none => rfl
  | some g =>
    have hgl := hP.guard i o g ho hg
    have : yielded (opsP ord x y ops) a.tmps (ord.idxOf g.1) = yielded ops a.tmps g.1 := by
      obtain ⟨og, ho'⟩ := hP.has hgl
      unfold yielded
      rw [hP.get ho', ho']; rfl
    simp only [Option.map_some, this]
theorem wpOps_ren {P : Program} {Q : Exit → Act → World → Prop} : ∀ {s : List Nat} {a : Act} {w : World}, (∀ i ∈ s, i < n) → wpOps P (opsP ord x y ops) Q (s.map ord.idxOf) a w → wpOps P ops Q s a w
  | [], a, w, _, h => h
  | i :: s, a, w, hs, h => by
    have hi : i < n := hs i List.mem_cons_self
    obtain ⟨o, ho⟩ := hP.has hi
    rw [List.map_cons, wpOps_cons] at h
    rw [wpOps_cons]
    have h := wpOp_mono (K' := wpOps P ops Q s) (fun a w h => wpOps_ren (fun j hj => hs j (List.mem_cons_of_mem _ hj)) h) h
    unfold wpOp at h ⊢
    rw [hP.get ho] at h
    rw [ho]
    simp only [wanted_ren hP ho] at h
    exact h
omit hP in
theorem Topo.lt {s : List Nat} {L : Array Bool} (h : Topo ops L s) (hs : ops.size = n) : ∀ i ∈ s, i < n := by
  induction h with
  | nil _ => simp
  | cons hi _ ih =>
    intro j hj
    rcases List.mem_cons.1 hj with rfl | hj
    · obtain ⟨_, o, ho, _⟩ := mem_ready.1 hi
      rw [← hs]; exact (Array.getElem?_eq_some_iff.1 ho).1
    · exact ih j hj
end
section
variable {P : Program} {T : TT} {O : Orc} {N : Nat} {f : FuncId} {all : Array Oper}
noncomputable def chkX (T : TT) (N : Nat) (p q : Nat) (o1 b1 o2 b2 : List Nat) (all : Array Oper) : Bool :=
  chkP all.size o1 p q all && chkP all.size o2 q p all && chkR T b1 (opsP o1 p q all) && chkR T b2 (opsP o2 q p all) && okDst N (opsP o1 p q all).toList && okDst N (opsP o2 q p all).toList
theorem regP_ops (hT : TOk P T) (hO : OOk P O) (hmix : P.follows .mixedOrders = true) {e : Env} {a : Act} {w : World} {k : K} {r : Res} {x y : Nat} {ord bits : List Nat} (hP : PermOk all.size ord x y all) (hchk : chkR T bits (opsP ord x y all) = true)
    (hd : okDst N (opsP ord x y all).toList = true) (he : EnvOk N e a) (h : regD P T O bits (opsP ord x y all) (opsP ord x y all).toList 0 e w.drew [] [] k = some r) {Q : Exit → Act → World → Prop}
    (hQ : ∀ e' a' w', EnvOk N e' a' → k e' w' = some r → Q .normal a' w') {s : List Nat} (hs : Topo all (Array.replicate all.size false) s) (hf : Fst x y (Array.replicate all.size false) s) : wpOps P all Q s a w.drew := by
  obtain ⟨ss, h1, e', a', w', h2, h3, h4, h5⟩ := regD_inv hT hO (opsP ord x y all).toList 0 e a w.drew [] [] [] hd he .nil h
  have hsz : (opsP ord x y all).size = all.size := by simp [opsP, hP.len]
  have hw : wpAny P .any (opsP ord x y all) Q (opsP ord x y all).size (Array.replicate (opsP ord x y all).size false) a w.drew := by
    refine any_inv (chkR_ok hchk) h1 h4 h5 (hQ e' a' w' h2 h3) _ _ _ _ ?_ ⟨by simp, fun i hl => ?_, ?_, ?_⟩
    · have := List.countP_le_length (p := fun i => !(Array.replicate (opsP ord x y all).size false).getD i true) (l := List.range (opsP ord x y all).size); simpa using this
    · exfalso; revert hl; simp [Array.getElem?_replicate]; split <;> simp
    · rw [actS_none]; intro k _; simp [Array.getElem?_replicate]; split <;> simp
    · rw [wS_start h4]
      intro j s _ _; simp [Array.getElem?_replicate]; split <;> simp
  refine wpOps_ren hP (hs.lt rfl) (topo_wp (topo_ren hP hs ⟨by simp, by simp [hsz], fun i hi => ?_⟩ hf) hw)
  have := hP.lt hi
  simp [hsz, hi, this]
theorem regX_wf (hT : TOk P T) (hO : OOk P O) (hmix : P.follows .mixedOrders = true) {id : Nat} {e : Env} {a : Act} {w : World} {k : K} {r : Res} {p q : Nat} {o1 b1 o2 b2 : List Nat} (hchk : chkX T N p q o1 b1 o2 b2 all = true) (he : EnvOk N e a)
    (h : regX P T O (ordB P f id all p q w) p q o1 b1 o2 b2 all e w k = some r) {Q : Exit → Act → World → Prop} (hQ : ∀ e' a' w', EnvOk N e' a' → k e' w' = some r → Q .normal a' w') : Wf P f (Code.region id all true) Q a w := by
  simp only [chkX, Bool.and_eq_true] at hchk
  obtain ⟨⟨⟨⟨⟨h1, h2⟩, h3⟩, h4⟩, h5⟩, h6⟩ := hchk
  have hs : Topo all (Array.replicate all.size false) (Region.schedule (P.follows .mixedOrders) all (w.tape w.drawn (.order f id))) := by
    simp only [Region.schedule, hmix, Bool.true_or, if_true]
    refine topo_go all.size _ _ ?_ (by simp)
    have := List.countP_le_length (p := fun i => !(Array.replicate all.size false).getD i true) (l := List.range all.size); simpa using this
  have key : wpOps P all Q (Region.schedule (P.follows .mixedOrders) all (w.tape w.drawn (.order f id))) a w.drew := by
    unfold regX at h
    cases hb : ordB P f id all p q w with
    | true =>
      rw [hb, cond_true] at h
      exact regP_ops hT hO hmix (chkP_ok h1) h3 h5 he h hQ hs (before_true _ (chkP_ok h1).ne (by rw [← ordB_eq]; exact hb))
    | false =>
      rw [hb, cond_false] at h
      exact regP_ops hT hO hmix (chkP_ok h2) h4 h6 he h hQ hs (before_false _ (chkP_ok h1).ne (by rw [← ordB_eq]; exact hb))
  intro b k cs hb
  subst hb
  obtain ⟨e, a', w', q, r⟩ := wp_ops _ a _ key b k cs
  exact ⟨e, a', w', q, .of_steps (.one step_region_draw) r⟩
noncomputable def chkT (T : TT) (N : Nat) (t : RX) : Array Oper → Bool :=
  RX.rec (motive := fun _ => Array Oper → Bool) (fun bits ops => chkR T bits ops && okDst N ops.toList)
    (fun p q o1 _ o2 _ A B ops => chkP ops.size o1 p q ops && chkP ops.size o2 q p ops && A (opsP o1 p q ops) && B (opsP o2 q p ops)) t
theorem regT_ops (hT : TOk P T) (hO : OOk P O) {e : Env} {a : Act} {w : World} {k : K} {r : Res} {ob : List (List Nat) → Nat → Nat → Bool} {s0 : List Nat} (hob : ∀ path p q, ob path p q = before p q (renL path s0)) {Q : Exit → Act → World → Prop}
    (hQ : ∀ e' a' w', EnvOk N e' a' → k e' w' = some r → Q .normal a' w') (he : EnvOk N e a) : ∀ (t : RX) (path : List (List Nat)) (ops : Array Oper), chkT T N t ops = true → regT P T O ob e w k t path ops = some r →
    Topo ops (Array.replicate ops.size false) (renL path s0) → wpOps P ops Q (renL path s0) a w.drew
  | .d bits, path, ops, hc, h, hs => by
    have hc : (chkR T bits ops && okDst N ops.toList) = true := hc
    rw [Bool.and_eq_true] at hc
    have h : regD P T O bits ops ops.toList 0 e w.drew [] [] k = some r := h
    obtain ⟨ss, h1, e', a', w', h2, h3, h4, h5⟩ := regD_inv hT hO ops.toList 0 e a w.drew [] [] [] hc.2 he .nil h
    have hw : wpAny P .any ops Q ops.size (Array.replicate ops.size false) a w.drew := by
      refine any_inv (chkR_ok hc.1) h1 h4 h5 (hQ e' a' w' h2 h3) _ _ _ _ ?_ ⟨by simp, fun i hl => ?_, ?_, ?_⟩
      · have := List.countP_le_length (p := fun i => !(Array.replicate ops.size false).getD i true) (l := List.range ops.size); simpa using this
      · exfalso; revert hl; simp [Array.getElem?_replicate]; split <;> simp
      · rw [actS_none]; intro k _; simp [Array.getElem?_replicate]; split <;> simp
      · rw [wS_start h4]
        intro j s _ _; simp [Array.getElem?_replicate]; split <;> simp
    exact topo_wp hs hw
  | .x p q o1 t1 o2 t2, path, ops, hc, h, hs => by
    have hc : (chkP ops.size o1 p q ops && chkP ops.size o2 q p ops && chkT T N t1 (opsP o1 p q ops) && chkT T N t2 (opsP o2 q p ops)) = true := hc
    simp only [Bool.and_eq_true] at hc
    obtain ⟨⟨⟨h1, h2⟩, h3⟩, h4⟩ := hc
    have h : cond (ob path p q) (regT P T O ob e w k t1 (o1 :: path) (opsP o1 p q ops)) (regT P T O ob e w k t2 (o2 :: path) (opsP o2 q p ops)) = some r := h
    have go : ∀ (x y : Nat) (ord : List Nat) (t : RX), PermOk ops.size ord x y ops → Fst x y (Array.replicate ops.size false) (renL path s0) → (Topo (opsP ord x y ops) (Array.replicate (opsP ord x y ops).size false) (renL (ord :: path) s0) → wpOps P (opsP ord x y ops) Q (renL (ord :: path) s0) a w.drew) → wpOps P ops Q (renL path s0) a w.drew := by
      intro x y ord t hP hf hw
      have hsz : (opsP ord x y ops).size = ops.size := by simp [opsP, hP.len]
      refine wpOps_ren hP (hs.lt rfl) (hw ?_)
      show Topo (opsP ord x y ops) _ ((renL path s0).map ord.idxOf)
      refine topo_ren hP hs ⟨by simp, by simp [hsz], fun i hi => ?_⟩ hf
      have := hP.lt hi
      simp [hsz, hi, this]
    cases hb : ob path p q with
    | true =>
      rw [hb, cond_true] at h
      exact go p q o1 t1 (chkP_ok h1) (before_true _ (chkP_ok h1).ne (by rw [← hob]; exact hb)) (regT_ops hT hO hob hQ he t1 (o1 :: path) _ h3 h)
    | false =>
      rw [hb, cond_false] at h
      exact go q p o2 t2 (chkP_ok h2) (before_false _ (chkP_ok h1).ne (by rw [← hob]; exact hb)) (regT_ops hT hO hob hQ he t2 (o2 :: path) _ h4 h)
theorem regT_wf (hT : TOk P T) (hO : OOk P O) (hmix : P.follows .mixedOrders = true) {id : Nat} {e : Env} {a : Act} {w : World} {k : K} {r : Res} {t : RX} (hchk : chkT T N t all = true) (he : EnvOk N e a)
    (h : regT P T O (fun path p q => ordT P f id all path p q w) e w k t [] all = some r) {Q : Exit → Act → World → Prop} (hQ : ∀ e' a' w', EnvOk N e' a' → k e' w' = some r → Q .normal a' w') : Wf P f (Code.region id all true) Q a w := by
  have hs : Topo all (Array.replicate all.size false) (Region.schedule (P.follows .mixedOrders) all (w.tape w.drawn (.order f id))) := by
    simp only [Region.schedule, hmix, Bool.true_or, if_true]
    refine topo_go all.size _ _ ?_ (by simp)
    have := List.countP_le_length (p := fun i => !(Array.replicate all.size false).getD i true) (l := List.range all.size); simpa using this
  have key : wpOps P all Q (Region.schedule (P.follows .mixedOrders) all (w.tape w.drawn (.order f id))) a w.drew :=
    regT_ops hT hO (s0 := Region.schedule (P.follows .mixedOrders) all (w.tape w.drawn (.order f id))) (fun path p q => ordT_eq P f id all path p q w) hQ he t [] all hchk h hs
  intro b k cs hb
  subst hb
  obtain ⟨e, a', w', q, r⟩ := wp_ops _ a _ key b k cs
  exact ⟨e, a', w', q, .of_steps (.one step_region_draw) r⟩
end
end Go.Proofs.YtdcdgmiojlldaaaDoor.Big
/- The big-step reading is true of the machine. -/
namespace Go.Proofs.YtdcdgmiojlldaaaDoor.Big
open Go
set_option linter.unusedVariables false
set_option linter.unusedSimpArgs false
noncomputable def okM (g : Ann → Bool) (an : Ann) : Bool := match an with | .jn _ a => g a | a => g a
noncomputable def okC (N : Nat) (T : TT) (sc : Code → Ann → Bool) (c : Code) : Ann → Bool :=
  Code.rec (motive := fun _ => Ann → Bool)
    (fun _ => true)
    (fun _ ops draw => okM fun an => okDst N ops.toList && cond draw (match an with | .rg bits => chkR T bits ops | .rx p q o1 b1 o2 b2 => chkX T N p q o1 b1 o2 b2 ops | .rt t => chkT T N t ops | _ => true) true)
    (fun _ _ A B => okM fun an => match an with | .node l r => A l && B r | _ => true)
    (fun _ _ _ A B => okM fun an => match an with | .node l r => A l && B r | _ => true)
    (fun _ _ A an => match an with | .jn _ a => A a | .nb a => A a | _ => true)
    (fun _ A an => match an with | .lp _ a => A a | _ => true)
    (fun _ _ _ _ _ _ _ => true)
    (fun _ _ => true)
    (fun c _ => okM fun an => sc c an)
    (fun _ _ => true)
    (fun _ _ => true)
    (fun _ => true)
    (fun _ _ => true) c
noncomputable def ok1 (N : Nat) (T : TT) : Code → Ann → Bool := okC N T fun _ _ => true
noncomputable def okS (N : Nat) (T : TT) (c : Code) (an : Ann) : Bool :=
  match an with
  | .sc a ls => ok1 N T c a && ls.all fun p => match findLabel c p.1 with | some c' => ok1 N T c' p.2.2 | none => true
  | _ => true
noncomputable def ok2 (N : Nat) (T : TT) : Code → Ann → Bool := okC N T (okS N T)
section
variable {P : Program} {T : TT} {O : Orc} {N : Nat} {rs : List RV} {f : FuncId} {n : Nat}
def Post (N : Nat) (rs : List RV) (ctx : Ctx) (kg : Kg) (k : K) (r : Res) : Exit → Act → World → Prop
  | .normal, a, w => ∃ e, EnvOk N e a ∧ k e w = some r
  | .exit id, a, w => ∃ e slots, EnvOk N e a ∧ look id ctx = some slots ∧ rst slots e (fun vs => some ⟨.exit id, vs, w⟩) = some r
  | .goto l, a, w => ∃ e, EnvOk N e a ∧ kg l e w = some r
  | .ret, a, w => ∃ e, EnvOk N e a ∧ retK rs e w = some r
  | _, _, _ => False
def Snd (P : Program) (f : FuncId) (N : Nat) (rs : List RV) (c : Code) (ok : Ann → Bool) (F : Cd) : Prop :=
  ∀ an, ok an = true → ∀ ctx kg e a w k r, EnvOk N e a → F an ctx kg e w k = some r → Wf P f c (Post N rs ctx kg k r) a w
theorem rst_inv {α : Type} {r : α} {a : Act} : ∀ (ts : List Nat) {e : Env} {f : List Value → Option α}, EnvOk N e a → rst ts e f = some r → ∃ vs, f vs = some r ∧ EnvOk N (ts.zip vs) a ∧ vs.length = ts.length
  | [], e, f, he, h => ⟨[], h, ⟨he.size, he.defers, fun t v h => by cases h⟩, rfl⟩
  | t :: ts, e, f, he, h => by
    obtain ⟨v, hv, h⟩ := optL_inv (x := look t e) (f := fun v => rst ts e fun vs => f (v :: vs)) h
    obtain ⟨vs, h1, h2, h3⟩ := rst_inv ts he h
    refine ⟨v :: vs, h1, ⟨he.size, he.defers, fun t' u hu => ?_⟩, by simp [h3]⟩
    rcases look_cons (e := ts.zip vs) hu with ⟨rfl, rfl⟩ | ⟨_, h'⟩
    · exact he.get _ _ hv
    · exact h2.get _ _ h'
theorem unp_inv {α : Type} {r : α} : ∀ (out : List (Nat × Kd)) {vs : List Value} {f : Env → Option α}, unp out vs f = some r → f ((out.map Prod.fst).zip vs) = some r
  | [], vs, f, h => by obtain ⟨rfl, h⟩ := tN_inv (x := f []) h; exact h
  | p :: out, vs, f, h => by
    obtain ⟨v, us, rfl, h⟩ := tC_inv (f := fun v vs => ty p.2 v fun v' => unp out vs fun e => f ((p.1, v') :: e)) h
    have h := ty_inv h
    exact unp_inv out h
theorem rst_some {α : Type} {r : α} : ∀ (ts : List Nat) {e : Env} {f : List Value → Option α}, rst ts e f = some r → ∃ vs, f vs = some r
  | [], e, f, h => ⟨[], h⟩
  | t :: ts, e, f, h => by
    obtain ⟨v, hv, h⟩ := optL_inv (x := look t e) (f := fun v => rst ts e fun vs => f (v :: vs)) h
    obtain ⟨vs, h⟩ := rst_some ts h
    exact ⟨_, h⟩
theorem retL_some {e : Env} {w : World} {r : Res} : ∀ (rs : List RV) {f : List Value → Option Res}, retL rs e w f = some r → ∃ vs, f vs = some r
  | [], f, h => ⟨[], h⟩
  | .tmp t :: rs, f, h => by
    obtain ⟨v, hv, h⟩ := optL_inv (x := look t e) (f := fun v => retL rs e w fun vs => f (v :: vs)) h
    obtain ⟨vs, h⟩ := retL_some rs h
    exact ⟨_, h⟩
  | .cell t k :: rs, f, h => by
    obtain ⟨v, hv, h⟩ := optL_inv (x := look t e) (f := fun v => tPL v fun p => optL p fun a => ldK k w a fun v => retL rs e w fun vs => f (v :: vs)) h
    obtain ⟨p, rfl, h⟩ := tPL_inv h
    obtain ⟨p, rfl, h⟩ := optL_inv h
    have : ∃ v, retL rs e w (fun vs => f (v :: vs)) = some r := by
      cases k with
      | lf l =>
        obtain ⟨u, _, h⟩ := opt_inv (x := w.cell? p) h
        exact ⟨_, (tyL_inv h).1⟩
      | agg ls =>
        have go : ∀ (ls : List Lf) (i : Nat) {f : List Value → Option Res}, ldLs w p ls i f = some r → ∃ cs, f cs = some r := by
          intro ls
          induction ls with
          | nil => intro i f h; exact ⟨[], h⟩
          | cons l ls ih =>
            intro i f h
            obtain ⟨u, _, h⟩ := opt_inv (x := w.cell? (p.add i)) (f := fun v => tyL l v fun v' => ldLs w p ls (i + 1) fun cs => f (v' :: cs)) h
            have h := (tyL_inv h).1
            obtain ⟨cs, h⟩ := ih _ h
            exact ⟨_, h⟩
        obtain ⟨cs, h⟩ := go ls 0 (f := fun cs => (fun v => retL rs e w fun vs => f (v :: vs)) (.agg cs.toArray)) h
        exact ⟨_, h⟩
    obtain ⟨v, h⟩ := this
    obtain ⟨vs, h⟩ := retL_some rs h
    exact ⟨_, h⟩
theorem retK_some {e : Env} {w : World} {r : Res} (h : retK rs e w = some r) : r.ex = .ret ∧ r.w = w := by
  obtain ⟨vs, h⟩ := retL_some rs h
  injection h with h; subst h; exact ⟨rfl, rfl⟩
theorem Snd.meets {c : Code} {ok : Ann → Bool} {g : Cd} (h : Snd P f N rs c ok g) : Snd P f N rs c (okM ok) (meets g) := by
  intro an hok ctx kg e a w k r he hr
  cases an with
  | jn out an =>
    obtain ⟨r1, h1, h2⟩ := opt_inv (x := g an ctx (fun _ _ _ => none) e w (outK out)) (f := fun r => match r.ex with | .norm => unp out r.vals fun e => k e r.w | _ => some r) hr
    refine wf_mono (h an hok ctx _ e a w _ r1 he h1) fun ex a' w' hp => ?_
    cases ex with
    | normal =>
      obtain ⟨e', he', hk⟩ := hp
      obtain ⟨vs, hv, hz, _⟩ := rst_inv _ he' hk
      injection hv with hv; subst hv
      exact ⟨_, hz, unp_inv out h2⟩
    | exit id =>
      obtain ⟨e', slots, he', hl, hk⟩ := hp
      obtain ⟨vs, hv⟩ := rst_some _ hk
      injection hv with hv; subst hv
      injection h2 with h2; subst h2
      exact ⟨e', slots, he', hl, hk⟩
    | goto l => obtain ⟨e', _, hk⟩ := hp; cases hk
    | ret =>
      obtain ⟨e', he', hk⟩ := hp
      have := retK_some hk
      rw [this.1] at h2
      injection h2 with h2; subst h2
      exact ⟨e', he', hk⟩
    | panic => exact hp
    | outgrown => exact hp
  | _ => exact h _ hok ctx kg e a w k r he hr
theorem ev_ok (hT : TOk P T) (hO : OOk P O) (hmix : P.follows .mixedOrders = true) {sc : Code → Ann → Bool} {scope : Code → Ann → Ctx → Env → World → K → Option Res}
    (hsc : ∀ c an, sc c an = true → ∀ ctx kg e a w k r, EnvOk N e a → scope c an ctx e w k = some r → Wf P f (Code.scope c) (Post N rs ctx kg k r) a w) (c : Code) :
    Snd P f N rs c (okC N T sc c) (ev P T O f n rs scope c) := by
  induction c with
  | skip => intro an _ ctx kg e a w k r he h; exact wf_of (wp_skip ⟨e, he, h⟩)
  | region id ops draw =>
    refine Snd.meets (g := fun an _ _ e w k => cond draw (match an with | .rg bits => regD P T O bits ops ops.toList 0 e w.drew [] [] k | .rx p q o1 b1 o2 b2 => regX P T O (ordB P f id ops p q w) p q o1 b1 o2 b2 ops e w k | .rt t => regT P T O (fun path p q => ordT P f id ops path p q w) e w k t [] ops | _ => none) (regE P T O ops ops.toList e w k))
      (ok := fun an => okDst N ops.toList && cond draw (match an with | .rg bits => chkR T bits ops | .rx p q o1 b1 o2 b2 => chkX T N p q o1 b1 o2 b2 ops | .rt t => chkT T N t ops | _ => true) true) ?_
    intro an hok ctx kg e a w k r he h
    simp only [Bool.and_eq_true] at hok
    cases draw with
    | false =>
      simp only [cond_false] at h
      refine wf_of (wp_region ?_)
      have := regE_inv (Q := Post N rs ctx kg k r) hT hO (fun e' a' w' he' hk => ⟨e', he', hk⟩) ops.toList 0 e a w (fun j => by simp) hok.1 he h
      simpa [List.range_eq_range'] using this
    | true =>
      simp only [cond_true] at h hok
      split at h
      · rename_i bits
        exact wf_of (regD_wp hT hO hmix (by simpa using hok.2) hok.1 he h fun e' a' w' he' hk => ⟨e', he', hk⟩)
      · rename_i p q o1 b1 o2 b2
        exact regX_wf hT hO hmix (by simpa using hok.2) he h fun e' a' w' he' hk => ⟨e', he', hk⟩
      · rename_i t
        exact regT_wf hT hO hmix (by simpa using hok.2) he h fun e' a' w' he' hk => ⟨e', he', hk⟩
      · cases h
  | seq x y ihx ihy =>
    refine Snd.meets (g := fun an ctx kg e w k => match an with | .node l r => ev P T O f n rs scope x l ctx kg e w fun e w => ev P T O f n rs scope y r ctx kg e w k | _ => none)
      (ok := fun an => match an with | .node l r => okC N T sc x l && okC N T sc y r | _ => true) ?_
    intro an hok ctx kg e a w k r he h
    cases an with
    | node l r' =>
      simp only [Bool.and_eq_true] at hok
      refine wf_seq (wf_mono (ihx l hok.1 ctx kg e a w _ r he h) fun ex a' w' hp => ?_)
      cases ex with
      | normal =>
        obtain ⟨e', he', hk⟩ := hp
        exact ihy r' hok.2 ctx kg e' a' w' k r he' hk
      | exit id => exact hp
      | goto l => exact hp
      | ret => exact hp
      | panic => exact hp
      | outgrown => exact hp
    | _ => cases h
  | cond x y z ihx ihy =>
    refine Snd.meets (g := fun an ctx kg e w k => vl x e fun v => tBL v fun b => match an with | .node l r => cond b (ev P T O f n rs scope y l ctx kg e w k) (ev P T O f n rs scope z r ctx kg e w k) | _ => none)
      (ok := fun an => match an with | .node l r => okC N T sc y l && okC N T sc z r | _ => true) ?_
    intro an hok ctx kg e a w k r he h
    obtain ⟨h, _⟩ := vl_inv he h
    obtain ⟨b, hb, h⟩ := tBL_inv h
    cases an with
    | node l r' =>
      simp only [Bool.and_eq_true] at hok
      cases b with
      | true => exact wf_cond (t := true) hb (ihx l hok.1 ctx kg e a w k r he h)
      | false => exact wf_cond (t := false) hb (ihy r' hok.2 ctx kg e a w k r he h)
    | _ => cases h
  | block id x ih =>
    intro an hok ctx kg e a w k r he h
    cases an with
    | jn out an =>
      obtain ⟨r1, h1, h2⟩ := opt_inv (x := ev P T O f n rs scope x an ((id, out.map Prod.fst) :: ctx) (fun _ _ _ => none) e w (outK out))
        (f := fun r => match r.ex with | .norm => unp out r.vals fun e => k e r.w | .exit i => cond (Nat.beq i id) (unp out r.vals fun e => k e r.w) (some r) | .ret => some r) h
      refine wf_block (wf_mono (ih an hok ((id, out.map Prod.fst) :: ctx) _ e a w _ r1 he h1) fun ex a' w' hp => ?_)
      cases ex with
      | normal =>
        obtain ⟨e', he', hk⟩ := hp
        obtain ⟨vs, hv, hz, _⟩ := rst_inv _ he' hk
        injection hv with hv; subst hv
        exact ⟨_, hz, unp_inv out h2⟩
      | exit i =>
        obtain ⟨e', slots, he', hl, hk⟩ := hp
        obtain ⟨vs, hv, hz, _⟩ := rst_inv _ he' hk
        injection hv with hv; subst hv
        simp only [Exit.inBlock]
        by_cases hi : i = id
        · subst hi
          rw [if_pos rfl]
          simp only [Nat.beq_refl, cond_true] at h2
          have : slots = out.map Prod.fst := by
            have hl : cond (Nat.beq i i) (some (out.map Prod.fst)) (look i ctx) = some slots := hl
            rw [Nat.beq_refl] at hl; injection hl with hl; exact hl.symm
          subst this
          exact ⟨_, hz, unp_inv out h2⟩
        · rw [if_neg hi]
          have hb : Nat.beq i id = false := Bool.eq_false_iff.2 fun h' => hi (Nat.eq_of_beq_eq_true h')
          simp only [hb, cond_false] at h2
          injection h2 with h2; subst h2
          rcases look_cons hl with ⟨h, _⟩ | ⟨_, hl⟩
          · exact absurd h hi
          · exact ⟨e', slots, he', hl, hk⟩
      | goto l => obtain ⟨e', _, hk⟩ := hp; cases hk
      | ret =>
        obtain ⟨e', he', hk⟩ := hp
        have := retK_some hk
        simp only [this.1] at h2
        injection h2 with h2; subst h2
        exact ⟨e', he', hk⟩
      | panic => exact hp
      | outgrown => exact hp
    | nb an =>
      have h : (match look id ctx with | none => ev P T O f n rs scope x an ctx kg e w k | some _ => none) = some r := h
      split at h
      · rename_i hn
        refine wf_block (wf_mono (ih an hok ctx kg e a w k r he h) fun ex a' w' hp => ?_)
        cases ex with
        | exit i =>
          simp only [Exit.inBlock]
          by_cases hi : i = id
          · subst hi
            obtain ⟨e', slots, _, hl, _⟩ := hp
            rw [hn] at hl; cases hl
          · rw [if_neg hi]; exact hp
        | normal => exact hp
        | goto l => exact hp
        | ret => exact hp
        | panic => exact hp
        | outgrown => exact hp
      · cases h
    | _ => cases h
  | loop x ih =>
    intro an hok ctx kg e a w k r he h
    cases an with
    | lp inn an =>
      obtain ⟨vs, h, hz, _⟩ := rst_inv (f := fun vs => iter (fun e w k => ev P T O f n rs scope x an ctx (fun _ _ _ => none) e w k) inn n (inn.zip vs) w) inn he h
      intro b kk cs hb
      have key : ∀ (m : Nat) (e : Env) (a : Act) (w : World), EnvOk N e a → iter (fun e w k => ev P T O f n rs scope x an ctx (fun _ _ _ => none) e w k) inn m e w = some r →
          ∃ ex a' w', Post N rs ctx kg k r ex a' w' ∧ Arrives P (lone (b.at a (.code x :: .inLoop x :: kk)) cs w) b kk cs ex a' w' := by
        intro m
        induction m with
        | zero => intro e a w _ h; cases h
        | succ m ihm =>
          intro e a w he h
          have h : ev P T O f n rs scope x an ctx (fun _ _ _ => none) e w (fun e' w' => rst inn e' fun vs => iter (fun e w k => ev P T O f n rs scope x an ctx (fun _ _ _ => none) e w k) inn m (inn.zip vs) w') = some r := h
          obtain ⟨ex, a₁, w₁, hq, harr⟩ := ih an hok ctx _ e a w _ r he h b (.inLoop x :: kk) cs hb
          cases ex with
          | normal =>
            obtain ⟨e', he', hk⟩ := hq
            obtain ⟨vs, hk, hz, _⟩ := rst_inv inn he' hk
            obtain ⟨e₂, a₂, w₂, hq₂, harr₂⟩ := ihm _ a₁ w₁ hz hk
            exact ⟨e₂, a₂, w₂, hq₂, .of_steps (Steps.trans harr (.one step_inLoop)) harr₂⟩
          | exit id => exact ⟨.exit id, a₁, w₁, hq, .pass (x := .inLoop x) rfl (fun _ _ => .inl (by simp)) harr⟩
          | goto l => obtain ⟨_, _, hk⟩ := hq; cases hk
          | ret => exact ⟨.ret, a₁, w₁, hq, .pass (x := .inLoop x) rfl (fun _ _ => .inl (by simp)) harr⟩
          | panic ch => exact hq.elim
          | outgrown => exact hq.elim
      obtain ⟨ex, a', w', hq, harr⟩ := key n _ a w hz h
      exact ⟨ex, a', w', hq, .of_steps (.one step_loop) harr⟩
    | _ => cases h
  | rangeFunc => intro an _ ctx kg e a w k r he h; cases h
  | exit id =>
    intro an _ ctx kg e a w k r he h
    obtain ⟨slots, hl, h⟩ := optL_inv (x := look id ctx) h
    exact wf_of (wp_exit ⟨e, slots, he, hl, h⟩)
  | scope x _ =>
    refine Snd.meets (g := fun an ctx _ e w k => scope x an ctx e w k) (ok := fun an => sc x an) ?_
    intro an hok ctx kg e a w k r he h
    exact hsc x an hok ctx kg e a w k r he h
  | label l => intro an _ ctx kg e a w k r he h; exact wf_of (wp_label ⟨e, he, h⟩)
  | goto l => intro an _ ctx kg e a w k r he h; exact wf_of (wp_goto ⟨e, he, h⟩)
  | ret => intro an _ ctx kg e a w k r he h; exact wf_of (wp_ret ⟨e, he, h⟩)
  | refuse => intro an _ ctx kg e a w k r he h; cases h
theorem ev1_ok (hT : TOk P T) (hO : OOk P O) (hmix : P.follows .mixedOrders = true) (c : Code) : Snd P f N rs c (ok1 N T c) (ev1 P T O f n rs c) :=
  ev_ok hT hO hmix (fun c an _ ctx kg e a w k r _ h => by cases h) c
theorem look_mem {β : Type} {t : Nat} {x : β} : ∀ {l : List (Nat × β)}, look t l = some x → (t, x) ∈ l
  | [], h => by cases h
  | (d, y) :: l, h => by
    have h : cond (Nat.beq d t) (some y) (look t l) = some x := h
    by_cases ht : d = t
    · subst ht; rw [Nat.beq_refl] at h; injection h with h; subst h; exact List.mem_cons_self
    · rw [Bool.eq_false_iff.2 fun h' => ht (Nat.eq_of_beq_eq_true h')] at h
      exact List.mem_cons_of_mem _ (look_mem h)
theorem scope_ok (hT : TOk P T) (hO : OOk P O) (hmix : P.follows .mixedOrders = true) (c : Code) (an : Ann) (hok : okS N T c an = true) (ctx : Ctx) (kg : Kg) (e : Env) (a : Act) (w : World) (k : K) (r : Res) (he : EnvOk N e a)
    (h : inScope P T O f n rs c an ctx e w k = some r) : Wf P f (Code.scope c) (Post N rs ctx kg k r) a w := by
  cases an with
  | sc an ls =>
    simp only [okS, Bool.and_eq_true, List.all_eq_true] at hok
    intro b kk cs hb
    have key : ∀ (m l : Nat) (e : Env) (a : Act) (w : World), EnvOk N e a → jumps P T O f n rs c ls ctx k m l e w = some r → ∃ c', findLabel c l = some c' ∧
        ∃ ex a' w', Post N rs ctx kg k r ex a' w' ∧ Arrives P (lone (b.at a (.code c' :: .inScope c :: kk)) cs w) b kk cs ex a' w' := by
      intro m
      induction m with
      | zero => intro l e a w _ h; cases h
      | succ m ihm =>
        intro l e a w he h
        have h : (optL (look l ls) fun p => optL (findLabel c l) fun c' => ev1 P T O f n rs c' p.2 ctx (fun l' e' w' => optL (look l' ls) fun q => rst q.1 e' fun vs => jumps P T O f n rs c ls ctx k m l' (q.1.zip vs) w') e w k) = some r := h
        obtain ⟨p, hp, h⟩ := optL_inv h
        obtain ⟨c', hc', h⟩ := optL_inv h
        have hokc : ok1 N T c' p.2 = true := by
          have := hok.2 (l, p) (look_mem hp)
          simp only [hc'] at this
          exact this
        refine ⟨c', hc', ?_⟩
        obtain ⟨ex, a₁, w₁, hq, harr⟩ := ev1_ok hT hO hmix c' p.2 hokc ctx _ e a w _ r he h b (.inScope c :: kk) cs hb
        cases ex with
        | normal => exact ⟨.normal, a₁, w₁, hq, Steps.trans harr (.one step_inScope)⟩
        | exit id => exact ⟨.exit id, a₁, w₁, hq, fun k' hk => harr k' (by simp [exitTo, hk])⟩
        | goto l' =>
          obtain ⟨e', he', hk⟩ := hq
          obtain ⟨q, hq, hk⟩ := optL_inv hk
          obtain ⟨vs, hk, hz, _⟩ := rst_inv _ he' hk
          obtain ⟨c2, hc2, ex, a₂, w₂, hq₂, harr₂⟩ := ihm l' _ a₁ w₁ hz hk
          exact ⟨ex, a₂, w₂, hq₂, .of_steps (harr _ (by simp [gotoIn, hc2])) harr₂⟩
        | ret => exact ⟨.ret, a₁, w₁, hq, harr⟩
        | panic ch => exact hq.elim
        | outgrown => exact hq.elim
    obtain ⟨ex, a₁, w₁, hq, harr⟩ := ev1_ok hT hO hmix c an hok.1 ctx _ e a w _ r he h b (.inScope c :: kk) cs hb
    cases ex with
    | normal => exact ⟨.normal, a₁, w₁, hq, .head step_scope (Steps.trans harr (.one step_inScope))⟩
    | exit id => exact ⟨.exit id, a₁, w₁, hq, fun k' hk => .head step_scope (harr k' (by simp [exitTo, hk]))⟩
    | goto l' =>
      obtain ⟨e', he', hk⟩ := hq
      obtain ⟨q, hq, hk⟩ := optL_inv hk
      obtain ⟨vs, hk, hz, _⟩ := rst_inv _ he' hk
      obtain ⟨c2, hc2, ex, a₂, w₂, hq₂, harr₂⟩ := key n l' _ a₁ w₁ hz hk
      exact ⟨ex, a₂, w₂, hq₂, .of_steps (.head step_scope (harr _ (by simp [gotoIn, hc2]))) harr₂⟩
    | ret => exact ⟨.ret, a₁, w₁, hq, .of_steps (b := b) (k := kk) (cs := cs) (e := .ret) (.one step_scope) harr⟩
    | panic ch => exact hq.elim
    | outgrown => exact hq.elim
  | _ => cases h
theorem ev2_ok (hT : TOk P T) (hO : OOk P O) (hmix : P.follows .mixedOrders = true) (c : Code) : Snd P f N rs c (ok2 N T c) (ev2 P T O f n rs c) :=
  ev_ok hT hO hmix (fun c an hok ctx kg e a w k r he h => scope_ok hT hO hmix c an hok ctx kg e a w k r he h) c
end
end Go.Proofs.YtdcdgmiojlldaaaDoor.Big
/- The big-step reading of a whole function is true of the machine. -/
namespace Go.Proofs.YtdcdgmiojlldaaaDoor.Big
open Go
set_option linter.unusedVariables false
set_option linter.unusedSimpArgs false
noncomputable def rsOf (T : TT) (l : List ResultVar) : Option (List RV) :=
  List.rec (motive := fun _ => Option (List RV)) (some []) (fun x _ ih => match x with
    | .tmp t => ih.map (.tmp t :: ·)
    | .cell t ty => (kdOf T ty).bind fun k => ih.map (.cell t k :: ·)) l
def resOf (tmps : Array Value) : ResultVar → Sem Value
  | .tmp t => pure (tmps.getD t undef)
  | .cell a t => do loadVar t (← asAddr (tmps.getD a undef))
section
variable {P : Program} {T : TT} {O : Orc} {N : Nat} {rs : List RV} {n : Nat} {e : Env} {a : Act} {w : World}
theorem getD_of {a : Act} {t : Nat} {v : Value} (h : a.tmps[t]? = some v) : a.tmps.getD t undef = v := by
  rw [Array.getD_eq_getD_getElem?, h]; rfl
theorem retL_run (hT : TOk P T) (he : EnvOk N e a) {r : Res} : ∀ (l : List ResultVar) (rs : List RV) {f : List Value → Option Res}, rsOf T l = some rs → retL rs e w f = some r →
    ∃ vs, f vs = some r ∧ (l.mapM (resOf a.tmps)).run P w = .ok vs w
  | [], rs, f, hl, h => by
    injection hl with hl; subst hl
    exact ⟨[], h, rfl⟩
  | .tmp t :: l, rs, f, hl, h => by
    have hl : (rsOf T l).map (.tmp t :: ·) = some rs := hl
    cases hl' : rsOf T l with
    | none => rw [hl'] at hl; cases hl
    | some rs' =>
      rw [hl'] at hl; injection hl with hl; subst hl
      obtain ⟨v, hv, h⟩ := optL_inv (x := look t e) (f := fun v => retL rs' e w fun vs => f (v :: vs)) h
      obtain ⟨vs, h1, h2⟩ := retL_run hT he l rs' hl' h
      refine ⟨_, h1, ?_⟩
      simp [List.mapM_cons, resOf, getD_of (he.get _ _ hv), h2]
  | .cell t ty :: l, rs, f, hl, h => by
    have hl : (kdOf T ty).bind (fun k => (rsOf T l).map (.cell t k :: ·)) = some rs := hl
    cases hk : kdOf T ty with
    | none => rw [hk] at hl; cases hl
    | some k =>
      rw [hk, Option.bind_some] at hl
      cases hl' : rsOf T l with
      | none => rw [hl'] at hl; cases hl
      | some rs' =>
        rw [hl'] at hl; injection hl with hl; subst hl
        obtain ⟨v, hv, h⟩ := optL_inv (x := look t e) (f := fun v => tPL v fun p => optL p fun a => ldK k w a fun v => retL rs' e w fun vs => f (v :: vs)) h
        obtain ⟨p, rfl, h⟩ := tPL_inv h
        obtain ⟨p, rfl, h⟩ := optL_inv h
        obtain ⟨u, h, hld⟩ := ldK_inv hT hk h
        obtain ⟨vs, h1, h2⟩ := retL_run hT he l rs' hl' h
        refine ⟨_, h1, ?_⟩
        simp [List.mapM_cons, resOf, getD_of (he.get _ _ hv), asAddr, hld, h2]
theorem unL_arr (vs : List Value) : (if h : vs.toArray.size = 1 then vs.toArray[0] else .tuple vs.toArray) = unL vs := by
  match vs with
  | [] => rfl
  | [v] => rfl
  | v :: u :: vs => simp [unL]
theorem results_ok (hT : TOk P T) (he : EnvOk N e a) {fn : Func} (hl : rsOf T fn.results.toList = some rs) {r : Res} (h : retK rs e w = some r) : (results fn a.tmps).run P w = .ok (unL r.vals) w ∧ r.w = w := by
  obtain ⟨vs, h1, h2⟩ := retL_run hT he _ rs hl h
  injection h1 with h1; subst h1
  refine ⟨?_, rfl⟩
  have e1 : results fn a.tmps = (do let vs ← fn.results.mapM (resOf a.tmps); pure (if h : vs.size = 1 then vs[0] else .tuple vs)) := by
    unfold results; congr 1
  rw [e1]
  simp only [Array.mapM_eq_mapM_toList, Sem.run_bind, Sem.run_map, h2]
  simpa using unL_arr vs
structure FnOk (P : Program) (T : TT) (k : FuncId) (fn : Func) (c : Code) (an : Ann) (rs : List RV) (ar : Nat) : Prop where
  at_ : P.funcs[k]? = some fn
  body : fn.body = some c
  arity : Nat.ble ar fn.ntmps = true
  rs : rsOf T fn.results.toList = some rs
  ok : ok2 fn.ntmps T c an = true
  host : (fn.name == "runtime.NumGoroutine") = false
theorem range_zip (vs : List Value) : ∀ (i t : Nat) (v : Value), look t ((List.range' i vs.length).zip vs) = some v → ∃ j, t = i + j ∧ vs[j]? = some v := by
  induction vs with
  | nil => intro i t v h; cases h
  | cons x vs ih =>
    intro i t v h
    simp only [List.length_cons, List.range'_succ, List.zip_cons_cons] at h
    rcases look_cons h with ⟨rfl, rfl⟩ | ⟨_, h⟩
    · exact ⟨0, rfl, rfl⟩
    · obtain ⟨j, h1, h2⟩ := ih _ _ _ h
      exact ⟨j + 1, by omega, by simpa using h2⟩
theorem evF_calls (hT : TOk P T) (hO : OOk P O) (hmix : P.follows .mixedOrders = true) {k : FuncId} {fn : Func} {c : Code} {an : Ann} {ar : Nat} (hf : FnOk P T k fn c an rs ar) {vs us : List Value} {w' : World}
    (h : evF P T O k n rs ar c an vs w = some (us, w')) : Calls P k vs.toArray w fun e w'' => e = .returned (unL us) ∧ w'' = w' := by
  unfold evF at h
  cases hlen : Nat.beq vs.length ar with
  | false => rw [hlen] at h; cases h
  | true =>
    rw [hlen, cond_true] at h
    have hlen := Nat.eq_of_beq_eq_true hlen
    have har : ar ≤ fn.ntmps := Nat.le_of_ble_eq_true hf.arity
    obtain ⟨r, h1, h2⟩ := opt_inv (x := ev2 P T O k n rs c an [] (fun _ _ _ => none) ((List.range vs.length).zip vs) w (retK rs)) (f := fun r => match r.ex with | .ret => some (r.vals, r.w) | _ => none) h
    have he : EnvOk fn.ntmps ((List.range vs.length).zip vs) { tmps := vs.toArray ++ Array.replicate (fn.ntmps - vs.toArray.size) undef, defers := [] } := by
      refine ⟨by simp; omega, rfl, fun t v h => ?_⟩
      rw [List.range_eq_range'] at h
      obtain ⟨j, h1, h2⟩ := range_zip vs 0 t v h
      have : t = j := by omega
      subst this
      have hlt : t < vs.length := (List.getElem?_eq_some_iff.1 h2).1
      rw [Array.getElem?_append_left (by simpa using hlt)]
      simpa using h2
    refine calls_of_wf hf.at_ hf.body (wf_mono (ev2_ok (N := fn.ntmps) hT hO hmix c an hf.ok [] (fun _ _ _ => none) _ _ w (retK rs) r he h1) fun ex a' w1 hp => ?_)
    have fin : ∀ e', EnvOk fn.ntmps e' a' → retK rs e' w1 = some r → a'.defers = [] ∧ ∃ v, (results fn a'.tmps).run P w1 = .ok v w1 ∧ (Ending.returned v = .returned (unL us) ∧ w1 = w') := by
      intro e' he' hk
      obtain ⟨h3, h4⟩ := results_ok hT he' hf.rs hk
      rw [(retK_some hk).1] at h2
      injection h2 with h2; injection h2 with h5 h6
      exact ⟨he'.defers, _, h3, by rw [h5], by rw [← h4, h6]⟩
    cases ex with
    | normal => obtain ⟨e', he', hk⟩ := hp; exact fin e' he' hk
    | ret => obtain ⟨e', he', hk⟩ := hp; exact fin e' he' hk
    | exit id => obtain ⟨e', slots, _, hl, _⟩ := hp; cases hl
    | goto l => obtain ⟨e', _, hk⟩ := hp; cases hk
    | panic => exact hp.elim
    | outgrown => exact hp.elim
theorem callFunc_run {k : FuncId} {fn : Func} {c : Code} (hf : P.funcs[k]? = some fn) (hb : fn.body = some c) (hh : (fn.name == "runtime.NumGoroutine") = false) (args : Array Value) : (callFunc k args).run P w = .ok (.enter k args) w := by
  unfold callFunc
  simp [hf, hh, hb]
  simp only [beq_eq_false_iff_ne, ne_eq] at hh
  simp [hh]
def Row (P : Program) (k : FuncId) (run : CallF) : Prop := ∀ vs w us w', run vs w = some (us, w') → ResOk P ((callFunc k vs.toArray).run P w) (unL us) w'
theorem evF_row (hT : TOk P T) (hO : OOk P O) (hmix : P.follows .mixedOrders = true) {k : FuncId} {fn : Func} {c : Code} {an : Ann} {ar : Nat} (hf : FnOk P T k fn c an rs ar) : Row P k (evF P T O k n rs ar c an) := by
  intro vs w us w' h
  rw [callFunc_run hf.at_ hf.body hf.host]
  exact evF_calls hT hO hmix hf h
theorem OOk.nil : OOk P [] := fun f run h => by cases h
theorem OOk.cons {k : FuncId} {run : CallF} {O : Orc} (h : Row P k run) (hO : OOk P O) : OOk P ((k, run) :: O) := fun f run' hl => by
  rcases look_cons hl with ⟨rfl, rfl⟩ | ⟨_, hl⟩
  · exact h
  · exact hO f run' hl
def szB (P : Program) (t : TypeId) (n : Nat) : Bool := match P.info? t with | some x => Nat.beq x.size n | none => false
theorem szB_ok {t : TypeId} {n : Nat} (h : szB P t n = true) : (P.info? t).map (·.size) = some n := by
  unfold szB at h; split at h
  · rename_i x hx; rw [hx]; simp only [Option.map_some]; rw [Nat.eq_of_beq_eq_true h]
  · cases h
def okTB (P : Program) (t : TypeId) (i : TI) : Bool :=
  (match i.d with
   | .int k => match P.underlying t with | some (.int k') => decide (k' = k) | _ => false
   | .bool => match P.underlying t with | some .bool => true | _ => false
   | .str => match P.underlying t with | some .string => true | _ => false
   | .sl e sz => match P.underlying t with | some (.slice e') => Nat.beq e' e && szB P e sz | _ => false
   | .arr n sz => match P.underlying t with | some (.array n' e) => Nat.beq n' n && szB P e sz && Nat.ble 2 n | _ => false
   | .i2 k => match P.underlying t with | some (.array n e) => Nat.beq n 2 && szB P e 1 && (match P.underlying e with | some (.int k') => decide (k' = k) | _ => false) | _ => false
   | .ptr => match P.underlying t with | some (.pointer _) => true | _ => false
   | .map => match P.underlying t with | some (.map _ _) => true | _ => false
   | _ => true) &&
  (match i.d with
   | .tup _ => true
   | _ => match i.kd with
     | .lf _ => (match P.underlying t with | some (.struct _) => false | some (.array _ _) => false | some _ => true | none => false) && szB P t 1
     | .agg ls => (match P.underlying t with | some (.struct _) => true | some (.array _ _) => true | _ => false) && szB P t ls.length)
theorem okTB_ok {t : TypeId} {i : TI} (h : okTB P t i = true) : okT P t i := by
  unfold okTB at h
  rw [Bool.and_eq_true] at h
  obtain ⟨h1, h2⟩ := h
  constructor
  · cases hd : i.d <;> simp only [hd] at h1 ⊢
    case int k => split at h1 <;> simp_all
    case bool => split at h1 <;> simp_all
    case str => split at h1 <;> simp_all
    case sl e sz =>
      split at h1
      · rename_i hu; simp only [Bool.and_eq_true] at h1; rw [hu, Nat.eq_of_beq_eq_true h1.1]; exact ⟨rfl, szB_ok h1.2⟩
      · cases h1
    case arr n sz =>
      split at h1
      · rename_i n' e hu; simp only [Bool.and_eq_true] at h1; exact ⟨e, by rw [hu, Nat.eq_of_beq_eq_true h1.1.1], szB_ok h1.1.2, Nat.le_of_ble_eq_true h1.2⟩
      · cases h1
    case i2 k =>
      split at h1
      · rename_i n e hu
        simp only [Bool.and_eq_true] at h1
        refine ⟨e, by rw [hu, Nat.eq_of_beq_eq_true h1.1.1], ?_, szB_ok h1.1.2⟩
        have := h1.2
        split at this <;> simp_all
      · cases h1
    case ptr => split at h1; · exact ⟨_, by assumption⟩
                cases h1
    case map => split at h1; · exact ⟨_, _, by assumption⟩
                cases h1
  · have go : (match i.kd with
     | .lf _ => (match P.underlying t with | some (.struct _) => false | some (.array _ _) => false | some _ => true | none => false) && szB P t 1
     | .agg ls => (match P.underlying t with | some (.struct _) => true | some (.array _ _) => true | _ => false) && szB P t ls.length) = true → (match i.kd with
     | .lf _ => (match P.underlying t with | some (.struct _) => False | some (.array _ _) => False | some _ => True | none => False) ∧ (P.info? t).map (·.size) = some 1
     | .agg ls => (match P.underlying t with | some (.struct _) => True | some (.array _ _) => True | _ => False) ∧ (P.info? t).map (·.size) = some ls.length) := by
      intro h
      cases hk : i.kd <;> simp only [hk, Bool.and_eq_true] at h ⊢
      · refine ⟨?_, szB_ok h.2⟩
        have := h.1
        split at this <;> simp_all
      · refine ⟨?_, szB_ok h.2⟩
        have := h.1
        split at this <;> simp_all
    cases hd : i.d <;> simp only [hd] at h2 ⊢ <;> first | trivial | exact go h2
theorem TOk.of_all {T : TT} (h : T.all (fun p => okTB P p.1 p.2) = true) : TOk P T := fun t i hl => okTB_ok (List.all_eq_true.1 h (t, i) (look_mem hl))
end
end Go.Proofs.YtdcdgmiojlldaaaDoor.Big
