/- What the big-step reading computes of one operation is what the machine does: memory, arithmetic, calls. -/
import Derived.Test.YtdcdgmiojlldaaaB2
import Derived.Laws.BytesString
namespace Go.Proofs.Ytdcdgmiojlldaaa.Big
open Go
set_option linter.unusedVariables false
set_option linter.unusedSimpArgs false
section
variable {α : Type} {r : α} {P : Program} {T : TT} {w : World}
theorem kdOf_inv (hT : TOk P T) {t : TypeId} {k : Kd} (h : kdOf T t = some k) :
    (match k with
     | .lf _ => (match P.underlying t with | some (.struct _) => False | some (.array _ _) => False | some _ => True | none => False) ∧ (P.info? t).map (·.size) = some 1
     | .agg ls => (match P.underlying t with | some (.struct _) => True | some (.array _ _) => True | _ => False) ∧ (P.info? t).map (·.size) = some ls.length) := by
  unfold kdOf at h
  split at h
  · cases h
  · rename_i i hn hi
    have ok := (hT t i hi).2
    simp only [Option.some.injEq] at h
    obtain ⟨d, kd⟩ := i
    simp only at h
    subst h
    cases d <;> first | exact (hn _ _ rfl).elim | (cases kd <;> exact ok)
  · cases h
theorem isAgg_lf {t : TypeId} (h : match P.underlying t with | some (.struct _) => False | some (.array _ _) => False | some _ => True | none => False) : (isAgg t).run P w = .ok false w := by
  cases hu : P.underlying t with
  | none => rw [hu] at h; exact h.elim
  | some d => rw [hu] at h; cases d <;> simp_all [isAgg, run_und hu]
theorem isAgg_agg {t : TypeId} (h : match P.underlying t with | some (.struct _) => True | some (.array _ _) => True | _ => False) : (isAgg t).run P w = .ok true w := by
  cases hu : P.underlying t with
  | none => rw [hu] at h; exact h.elim
  | some d => rw [hu] at h; cases d <;> simp_all [isAgg, run_und hu]
theorem ldLs_inv (a : Addr) : ∀ (ls : List Lf) (i : Nat) {f : List Value → Option α}, ldLs w a ls i f = some r →
    ∃ vs : List Value, f vs = some r ∧ vs.length = ls.length ∧ ∀ acc : Array Value, (loadCellsFrom a i ls.length acc).run P w = .ok (acc ++ vs.toArray) w
  | [], i, f, h => ⟨[], h, rfl, fun acc => by simp [loadCellsFrom]⟩
  | l :: ls, i, f, h => by
    obtain ⟨v, hv, h⟩ := opt_inv h
    obtain ⟨h, _⟩ := tyL_inv h
    obtain ⟨vs, h1, h2, h3⟩ := ldLs_inv a ls (i + 1) (f := fun cs => f (v :: cs)) h
    refine ⟨v :: vs, h1, by simp [h2], fun acc => ?_⟩
    simp only [List.length_cons, loadCellsFrom, Sem.run_bind, run_load, hv, Result.andThen_ok, h3]
    simp
theorem ldK_inv (hT : TOk P T) {t : TypeId} {k : Kd} (hk : kdOf T t = some k) {a : Addr} {f : Value → Option α} (h : ldK k w a f = some r) :
    ∃ v, f v = some r ∧ (loadVar t a).run P w = .ok v w := by
  have hi := kdOf_inv hT hk
  cases k with
  | lf l =>
    simp only [ldK] at h
    obtain ⟨v, hv, h⟩ := opt_inv h
    obtain ⟨h, _⟩ := tyL_inv h
    exact ⟨v, h, by simp [loadVar, isAgg_lf hi.1, hv]⟩
  | agg ls =>
    simp only [ldK] at h
    obtain ⟨vs, h1, h2, h3⟩ := ldLs_inv (P := P) a ls 0 h
    refine ⟨_, h1, ?_⟩
    have := h3 #[]
    simp [loadVar, isAgg_agg hi.1, run_size hi.2, loadCells, this]
theorem stC_inv {a : Addr} {v : Value} {f : World → Option α} (hv : v.oneCell' = true) (h : stC w a v f = some r) : ∃ w', f w' = some r ∧ (store a v).run P w = .ok () w' := by
  unfold stC at h
  obtain ⟨u, hu, h⟩ := opt_inv h
  cases hf : w.frozen? a with
  | true => rw [hf] at h; cases h
  | false =>
    rw [hf] at h
    exact ⟨_, h, by rw [run_store P w a v .plain hv, hu]; simp [hf]⟩
theorem oneC_eq (v : Value) : oneC v = v.oneCell' := by cases v <;> rfl
theorem stLs_inv (a : Addr) : ∀ (vs : List Value) (i : Nat) (w : World) {f : World → Option α}, stLs a vs i w f = some r → ∃ w', f w' = some r ∧ (storeCells a vs i).run P w = .ok () w'
  | [], i, w, f, h => ⟨w, h, by simp [storeCells]⟩
  | v :: vs, i, w, f, h => by
    have h : cond (oneC v) (stC w (a.add i) v fun w' => stLs a vs (i + 1) w' f) none = some r := h
    cases hv : oneC v with
    | false => rw [hv] at h; cases h
    | true =>
      have h : stC w (a.add i) v (fun w' => stLs a vs (i + 1) w' f) = some r := by rw [hv] at h; exact h
      obtain ⟨w1, h1, h2⟩ := stC_inv (P := P) (by rw [← oneC_eq]; exact hv) h
      obtain ⟨w2, h3, h4⟩ := stLs_inv a vs (i + 1) w1 h1
      exact ⟨w2, h3, by simp [storeCells, h2, h4]⟩
theorem st_lf (hT : TOk P T) {t : TypeId} {l : Lf} (hk : kdOf T t = some (.lf l)) {a : Addr} {u : Value} {f : World → Option α} (h : stLs a [u] 0 w f = some r) :
    ∃ w', f w' = some r ∧ (storeVar t a u).run P w = .ok () w' := by
  have hi := kdOf_inv hT hk
  have hc : oneC u = true := by
    cases hv : oneC u with
    | true => rfl
    | false =>
      have h : cond (oneC u) (stC w (a.add 0) u fun w' => stLs a [] 1 w' f) none = some r := h
      rw [hv] at h; cases h
  obtain ⟨w', h1, h2⟩ := stLs_inv (P := P) a [u] 0 w h
  have hcs : u.cells = #[u] := by cases u <;> first | rfl | simp [oneC] at hc
  exact ⟨w', h1, by simp [storeVar, run_size hi.2, hcs, h2]⟩
theorem st_agg (hT : TOk P T) {t : TypeId} {ls : List Lf} (hk : kdOf T t = some (.agg ls)) {a : Addr} {cs : List Value} (hl : cs.length = ls.length) {f : World → Option α} (h : stLs a cs 0 w f = some r) :
    ∃ w', f w' = some r ∧ (storeVar t a (.agg cs.toArray)).run P w = .ok () w' := by
  have hi := kdOf_inv hT hk
  obtain ⟨w', h1, h2⟩ := stLs_inv (P := P) a cs 0 w h
  exact ⟨w', h1, by simp [storeVar, run_size hi.2, Value.cells, hl, h2]⟩
theorem ixA_inv {A : Option Addr} {l : Nat} {i : Int} {sz : Nat} {f : Addr → Option α} (h : ixA A l i sz f = some r) : ∃ a, A = some a ∧ (0 ≤ i ∧ i < l) ∧ f (a.add (i.toNat * sz)) = some r := by
  unfold ixA at h
  split at h
  · split at h
    · rename_i a hi; exact ⟨a, rfl, hi, h⟩
    · cases h
  · cases h
theorem ixR_inv {a : Addr} {l : Nat} {i : Int} {sz : Nat} {f : Addr → Option α} (h : ixR a l i sz f = some r) : (0 ≤ i ∧ i < l) ∧ f (a.add (i.toNat * sz)) = some r := by
  rw [ixR_eq] at h
  unfold ixR0 at h
  split at h
  · rename_i hi; exact ⟨hi, h⟩
  · cases h
theorem cutS_inv {A : Option Addr} {c : Nat} {lo hi : Int} {sz : Nat} {f : Option Addr → Nat → Nat → Option α} (h : cutS A c lo hi sz f = some r) :
    (0 ≤ lo ∧ lo ≤ hi ∧ hi ≤ c) ∧ f (if c = lo.toNat then A else A.map (·.add (lo.toNat * sz))) (hi.toNat - lo.toNat) (c - lo.toNat) = some r := by
  unfold cutS at h
  split at h
  · rename_i hi; exact ⟨hi, h⟩
  · cases h
theorem cut3_inv {A : Option Addr} {c : Nat} {lo hi mx : Int} {sz : Nat} {f : Option Addr → Nat → Nat → Option α} (h : cut3 A c lo hi mx sz f = some r) :
    (0 ≤ lo ∧ lo ≤ hi ∧ hi ≤ mx ∧ mx ≤ c) ∧ f (if mx.toNat = lo.toNat then A else A.map (·.add (lo.toNat * sz))) (hi.toNat - lo.toNat) (mx.toNat - lo.toNat) = some r := by
  unfold cut3 at h
  split at h
  · rename_i hi; exact ⟨hi, h⟩
  · cases h
theorem run_bound (k : IntKind) (i : Int) (y : Nat) (code : BoundsCode) (h : 0 ≤ i ∧ i ≤ y) : (Instr.sliceBound (.int k i) y code).run P w = .ok i.toNat w := by
  simp [Instr.sliceBound, asIntOf, h]
theorem rdB_inv (a : Addr) : ∀ (n i : Nat) (l : List UInt8), rdB w a n i = some l → ∃ ns : List Int, l = ns.map (fun n => UInt8.ofNat n.toNat) ∧ (∀ acc : Array Value, (loadCellsFrom a i n acc).run P w = .ok (acc ++ (ns.map (Value.int .u8)).toArray) w)
  | 0, i, l, h => by
    have h : some [] = some l := h
    injection h with h; subst h
    exact ⟨[], rfl, fun acc => by simp [loadCellsFrom]⟩
  | n + 1, i, l, h => by
    obtain ⟨v, hv, h⟩ := opt_inv h
    obtain ⟨x, rfl, h⟩ := tI_inv h
    obtain ⟨l', hl', h⟩ := opt_inv h
    injection h with h; subst h
    obtain ⟨ns, h1, h2⟩ := rdB_inv a n (i + 1) l' hl'
    refine ⟨x :: ns, by simp [h1], fun acc => ?_⟩
    simp only [loadCellsFrom, Sem.run_bind, run_load, hv, Result.andThen_ok, h2]; simp
theorem foldl_push_b : ∀ (ns : List Int) (s : ByteArray), ns.foldl (fun r n => r.push (UInt8.ofNat n.toNat)) s = ⟨s.data ++ (ns.map fun n => UInt8.ofNat n.toNat).toArray⟩
  | [], s => by simp
  | n :: ns, s => by
    rw [List.foldl_cons, foldl_push_b ns]
    simp [ByteArray.push]
theorem strOf_inv {A : Option Addr} {l c : Nat} {s : ByteArray} (h : strOf w A l = some s) : (Conv.bytesToString (.slice A l c)).run P w = .ok (.string s) w := by
  cases A with
  | none =>
    simp only [strOf, Option.some.injEq] at h
    subst h
    simp [Conv.bytesToString]
  | some a =>
    simp only [strOf] at h
    obtain ⟨bs, hb, h⟩ := opt_inv h
    injection h with h; subst h
    obtain ⟨ns, h1, h2⟩ := rdB_inv (P := P) a l 0 bs hb
    have := h2 #[]
    rw [run_bytesToString w a l c ns (by simpa [loadCells] using this), foldl_push_b, h1]
    simp [ByteArray.empty, ByteArray.emptyWithCapacity]
    rfl

/-! ### The operations -/
variable {O : Orc} {N : Nat} {e : Env} {a : Act} {o : Oper}
theorem frc_inv {v : Value} {f : Value → Option α} (h : frc v f = some r) : f v = some r := by
  cases v <;> first | exact h | cases h
theorem rho_op (he : EnvOk N e a) (hs : ∀ cs b, o.op ≠ .select cs b) (h : ∀ x ∈ o.op.operands.toList, rho e x = a.eval x) : execOp (rho e) o = execOp a.eval o :=
  execOp_congr o hs fun x hx => h x (by simpa using hx)
theorem opP_inv (he : EnvOk N e a) (hs : ∀ cs b, o.op ≠ .select cs b) {k : Value → Option α} (h : opP P o e k = some r) : ∃ v, k v = some r ∧ ∀ w, ResOk P ((execOp a.eval o).run P w) v w := by
  obtain ⟨h, hr⟩ := vls_inv he _ h
  rw [rho_op he hs hr] at h
  split at h
  · rename_i v hv
    exact ⟨v, frc_inv h, fun w => by rw [pureS_run hv w]; exact ⟨rfl, rfl⟩⟩
  · cases h
theorem opR_inv (he : EnvOk N e a) (hs : ∀ cs b, o.op ≠ .select cs b) {k : Value → Option α} (h : opR P o e k = some r) : ∃ v, k v = some r ∧ ∀ w, ResOk P ((execOp a.eval o).run P w) v w := by
  obtain ⟨h, hr⟩ := vls_inv he _ h
  rw [rho_op he hs hr] at h
  split at h
  · rename_i v hv
    exact ⟨v, h, fun w => by rw [pureS_run hv w]; exact ⟨rfl, rfl⟩⟩
  · cases h
theorem opW_inv (he : EnvOk N e a) (hs : ∀ cs b, o.op ≠ .select cs b) {k : Value → World → Option α} (h : opW P o e w k = some r) : ∃ v w', k v w' = some r ∧ ResOk P ((execOp a.eval o).run P w) v w' := by
  obtain ⟨h, hr⟩ := vls_inv he _ h
  rw [rho_op he hs hr] at h
  split at h
  · rename_i v w' hv
    exact ⟨v, w', frc_inv h, by rw [hv]; exact ⟨rfl, rfl⟩⟩
  · rename_i w' hv
    exact ⟨_, w', h, by rw [hv]; exact ⟨rfl, rfl⟩⟩
  · cases h
theorem value_ok {s : Sem Value} {v : Value} {w w' : World} (h : s.run P w = .ok v w') : ResOk P ((do pure (Next.value (← s)) : Sem Next).run P w) v w' := by
  simp [h, ResOk]
theorem unit_ok {s : Sem Unit} {w w' : World} (h : s.run P w = .ok () w') : ResOk P ((do s; pure Next.skip : Sem Next).run P w) undef w' := by
  simp [h, ResOk]
def Fine (P : Program) (T : TT) (o : Oper) (a : Act) (w : World) (v : Value) (w' : World) : Prop :=
  ResOk P ((execOp a.eval o).run P w) v w' ∧ (cls T o = .v → w' = w ∧ ∀ w2, ResOk P ((execOp a.eval o).run P w2) v w2) ∧ (cls T o = .r → w' = w)
theorem Fine.pure {v : Value} (h : ∀ w, ResOk P ((execOp a.eval o).run P w) v w) : Fine P T o a w v w := ⟨h w, fun _ => ⟨rfl, h⟩, fun _ => rfl⟩
theorem Fine.read {v : Value} (hc : cls T o ≠ .v) (h : ResOk P ((execOp a.eval o).run P w) v w) : Fine P T o a w v w := ⟨h, fun hv => absurd hv hc, fun _ => rfl⟩
theorem Fine.eff {v : Value} {w' : World} (hc : cls T o = .e) (h : ResOk P ((execOp a.eval o).run P w) v w') : Fine P T o a w v w' := ⟨h, fun hv => (by rw [hc] at hv; cases hv), fun hv => (by rw [hc] at hv; cases hv)⟩
end
end Go.Proofs.Ytdcdgmiojlldaaa.Big
