/- What the big-step reading computes of one operation is what the machine does: operation by operation. -/
import Derived.Test.YtdcdgmiojlldaaaB3
namespace Go.Proofs.Ytdcdgmiojlldaaa.Big
open Go
set_option linter.unusedVariables false
set_option linter.unusedSimpArgs false
section
variable {α : Type} {r : α} {P : Program} {T : TT} {w : World} {O : Orc} {N : Nat} {e : Env} {a : Act} {o : Oper} {k : Value → World → Option α}
theorem op_load (hT : TOk P T) (he : EnvOk N e a) {t : TypeId} {x : Operand} (ho : o.op = .load t x) (h : opE P T O o e w k = some r) : ∃ v w', k v w' = some r ∧ Fine P T o a w v w' := by
  simp only [opE, ho] at h
  have h_ := vl_inv he h
  clear h
  obtain ⟨h, _⟩ := h_
  have h_ := tPL_inv h
  clear h
  obtain ⟨p, hp, h⟩ := h_
  have h_ := optL_inv h
  clear h
  obtain ⟨ad, rfl, h⟩ := h_
  have h_ := optL_inv h
  clear h
  obtain ⟨kd, hk, h⟩ := h_
  have h_ := ldK_inv (P := P) hT hk h
  clear h
  obtain ⟨v, h, hv⟩ := h_
  refine ⟨v, w, h, .read (by simp [cls, ho]) ?_⟩
  simp only [execOp, ho, hp, Instr.loadAt]
  exact value_ok (by simpa [Instr.sureAddr] using hv)
theorem op_store (hT : TOk P T) (he : EnvOk N e a) {t : TypeId} {x y : Operand} (ho : o.op = .store t x y) (h : opE P T O o e w k = some r) : ∃ v w', k v w' = some r ∧ Fine P T o a w v w' := by
  simp only [opE, ho] at h
  have h_ := vl_inv he h
  clear h
  obtain ⟨h, _⟩ := h_
  have h_ := tPL_inv h
  clear h
  obtain ⟨p, hp, h⟩ := h_
  have h_ := optL_inv h
  clear h
  obtain ⟨ad, rfl, h⟩ := h_
  have h_ := optL_inv h
  clear h
  obtain ⟨kd, hk, h⟩ := h_
  have h_ := vl_inv he h
  clear h
  obtain ⟨h, _⟩ := h_
  cases kd with
  | lf l =>
    obtain ⟨w', h, hs⟩ := st_lf (P := P) hT hk h
    refine ⟨undef, w', h, .eff (by simp [cls, ho]) ?_⟩
    simp only [execOp, ho, hp, Instr.storeAt]
    exact unit_ok (by simpa [Instr.sureAddr] using hs)
  | agg ls =>
    have h_ := tAL_inv h
    clear h
    obtain ⟨cs, hcs, h⟩ := h_
    cases hl : Nat.beq cs.length ls.length with
    | false => rw [hl] at h; cases h
    | true =>
      rw [hl] at h
      obtain ⟨w', h, hs⟩ := st_agg (P := P) hT hk (Nat.eq_of_beq_eq_true hl) h
      refine ⟨undef, w', h, .eff (by simp [cls, ho]) ?_⟩
      simp only [execOp, ho, hp, hcs, Instr.storeAt]
      exact unit_ok (by simpa [Instr.sureAddr] using hs)
theorem op_indexAddr (hT : TOk P T) (he : EnvOk N e a) {t : TypeId} {x i : Operand} (ho : o.op = .indexAddr t x i) (h : opE P T O o e w k = some r) : ∃ v w', k v w' = some r ∧ Fine P T o a w v w' := by
  simp only [opE, ho] at h
  have h_ := vl_inv he h
  clear h
  obtain ⟨h, _⟩ := h_
  have h_ := vl_inv he h
  clear h
  obtain ⟨h, _⟩ := h_
  split at h
  · rename_i el sz kk n hd hi
    have h_ := tLL_inv h
    clear h
    obtain ⟨A, l, c, hx, h⟩ := h_
    have h_ := ixA_inv h
    clear h
    obtain ⟨ad, rfl, hb, h⟩ := h_
    refine ⟨_, w, h, .pure fun w2 => ?_⟩
    obtain ⟨hu, hs⟩ := sl_inv hT hd
    simp only [execOp, ho, hx, hi]
    refine value_ok ?_
    simp [Instr.indexAt, asIntOf, run_und hu, run_size hs, hb]
  · rename_i len sz kk n hd hi
    have h_ := tPL_inv h
    clear h
    obtain ⟨p, hx, h⟩ := h_
    have h_ := optL_inv h
    clear h
    obtain ⟨ad, rfl, h⟩ := h_
    have h_ := ixR_inv h
    clear h
    obtain ⟨hb, h⟩ := h_
    refine ⟨_, w, h, .pure fun w2 => ?_⟩
    obtain ⟨el, hu, hs, _⟩ := arr_inv hT hd
    simp only [execOp, ho, hx, hi]
    refine value_ok ?_
    simp [Instr.indexAt, asIntOf, run_und hu, run_size hs, hb, Instr.sureAddr]
  · cases h
theorem op_index (hT : TOk P T) (he : EnvOk N e a) {t : TypeId} {x i : Operand} (ho : o.op = .index t x i) (h : opE P T O o e w k = some r) : ∃ v w', k v w' = some r ∧ Fine P T o a w v w' := by
  simp only [opE, ho] at h
  have h_ := vl_inv he h
  clear h
  obtain ⟨h, _⟩ := h_
  have h_ := vl_inv he h
  clear h
  obtain ⟨h, _⟩ := h_
  split at h
  · rename_i kk n hd hi
    have h_ := tSL_inv h
    clear h
    obtain ⟨s, hx, h⟩ := h_
    unfold ixS at h
    split at h
    · rename_i h0
      split at h
      · rename_i b hb
        refine ⟨_, w, h, .pure fun w2 => ?_⟩
        simp only [execOp, ho, hx, hi]
        refine value_ok ?_
        simp [Instr.index, asIntOf, run_und (str_inv hT hd), h0, hb]
      · cases h
    · cases h
  · obtain ⟨v, h2, hv⟩ := opP_inv (P := P) he (by simp [ho]) h
    exact ⟨v, w, h2, .pure hv⟩
  · cases h
theorem op_nilCheck (he : EnvOk N e a) {x : Operand} (ho : o.op = .nilCheck x) (h : opE P T O o e w k = some r) : ∃ v w', k v w' = some r ∧ Fine P T o a w v w' := by
  simp only [opE, ho] at h
  have h_ := vl_inv he h
  clear h
  obtain ⟨h, _⟩ := h_
  have h_ := tPL_inv h
  clear h
  obtain ⟨p, hp, h⟩ := h_
  have h_ := optL_inv h
  clear h
  obtain ⟨ad, rfl, h⟩ := h_
  refine ⟨_, w, h, .pure fun w2 => ?_⟩
  simp [execOp, ho, hp, ResOk]
theorem op_slice (hT : TOk P T) (he : EnvOk N e a) {t : TypeId} {x : Operand} {lo hi mx : Option Operand} (ho : o.op = .slice t x lo hi mx) (h : opE P T O o e w k = some r) : ∃ v w', k v w' = some r ∧ Fine P T o a w v w' := by
  cases mx with
  | none =>
    simp only [opE, ho] at h
    have h_ := vl_inv he h
    clear h
    obtain ⟨h, _⟩ := h_
    split at h
    · rename_i el sz hd
      have h_ := tLL_inv h
      clear h
      obtain ⟨A, l, c, hx, h⟩ := h_
      obtain ⟨hu, hs⟩ := sl_inv hT hd
      split at h
      · have h_ := vl_inv he h
        clear h
        obtain ⟨h, _⟩ := h_
        have h_ := tIL_inv h
        clear h
        obtain ⟨n, hn, h⟩ := h_
        have h_ := vl_inv he h
        clear h
        obtain ⟨h, _⟩ := h_
        have h_ := tIL_inv h
        clear h
        obtain ⟨m, hm, h⟩ := h_
        have h_ := cutS_inv h
        clear h
        obtain ⟨hb, h⟩ := h_
        refine ⟨_, w, h, .pure fun w2 => ?_⟩
        simp only [execOp, ho, hx, Option.map_some, hn, hm, Option.map_none]
        refine value_ok ?_
        have h1 : n.toNat ≤ m.toNat := by omega
        simp only [Instr.sliceAt, Sem.run_bind, run_und hu, Result.andThen_ok, Instr.slice, Instr.sliceBounds, Sem.run_pure, run_bound (P := P) (w := w2) .i64 m c .sliceAcap ⟨by omega, hb.2.2⟩, run_bound (P := P) (w := w2) .i64 n m.toNat .sliceB ⟨hb.1, by omega⟩, run_size hs,
          if_true, Option.isSome_none, Bool.false_eq_true, if_false]
      · have h_ := vl_inv he h
        clear h
        obtain ⟨h, _⟩ := h_
        have h_ := tIL_inv h
        clear h
        obtain ⟨n, hn, h⟩ := h_
        have h_ := cutS_inv h
        clear h
        obtain ⟨hb, h⟩ := h_
        refine ⟨_, w, h, .pure fun w2 => ?_⟩
        simp only [execOp, ho, hx, Option.map_some, hn, Option.map_none]
        refine value_ok ?_
        simp only [Instr.sliceAt, Sem.run_bind, run_und hu, Result.andThen_ok, Instr.slice, Instr.sliceBounds, Sem.run_pure, run_bound (P := P) (w := w2) .i64 n l .sliceB ⟨hb.1, hb.2.1⟩, run_size hs,
          if_true, Option.isSome_none, Bool.false_eq_true, if_false, Int.toNat_natCast]
      · have h_ := vl_inv he h
        clear h
        obtain ⟨h, _⟩ := h_
        have h_ := tIL_inv h
        clear h
        obtain ⟨m, hm, h⟩ := h_
        have h_ := cutS_inv h
        clear h
        obtain ⟨hb, h⟩ := h_
        refine ⟨_, w, h, .pure fun w2 => ?_⟩
        simp only [execOp, ho, hx, Option.map_some, hm, Option.map_none]
        refine value_ok ?_
        simp only [Instr.sliceAt, Sem.run_bind, run_und hu, Result.andThen_ok, Instr.slice, Instr.sliceBounds, Sem.run_pure, run_bound (P := P) (w := w2) .i64 m c .sliceAcap ⟨hb.2.1, hb.2.2⟩, run_size hs,
          if_true, Option.isSome_none, Bool.false_eq_true, if_false, Int.toNat_zero]
      · refine ⟨_, w, h, .pure fun w2 => ?_⟩
        simp only [execOp, ho, hx, Option.map_none]
        refine value_ok ?_
        simp only [Instr.sliceAt, Sem.run_bind, run_und hu, Result.andThen_ok, Instr.slice, Instr.sliceBounds, Sem.run_pure, run_size hs]
        by_cases hc : c = 0
        · subst hc; simp
        · simp only [hc, if_false]
          cases A <;> simp [Addr.add]
    · cases h
  | some mx =>
    simp only [opE, ho] at h
    have h_ := vl_inv he h
    clear h
    obtain ⟨h, _⟩ := h_
    split at h
    · rename_i el sz lo hi hd
      have h_ := tLL_inv h
      clear h
      obtain ⟨A, l, c, hx, h⟩ := h_
      obtain ⟨hu, hs⟩ := sl_inv hT hd
      have h_ := vl_inv he h
      clear h
      obtain ⟨h, _⟩ := h_
      have h_ := tIL_inv h
      clear h
      obtain ⟨n, hn, h⟩ := h_
      have h_ := vl_inv he h
      clear h
      obtain ⟨h, _⟩ := h_
      have h_ := tIL_inv h
      clear h
      obtain ⟨m, hm, h⟩ := h_
      have h_ := vl_inv he h
      clear h
      obtain ⟨h, _⟩ := h_
      have h_ := tIL_inv h
      clear h
      obtain ⟨q, hq, h⟩ := h_
      have h_ := cut3_inv h
      clear h
      obtain ⟨hb, h⟩ := h_
      refine ⟨_, w, h, .pure fun w2 => ?_⟩
      simp only [execOp, ho, hx, Option.map_some, hn, hm, hq]
      refine value_ok ?_
      simp only [Instr.sliceAt, Sem.run_bind, run_und hu, Result.andThen_ok, Instr.slice, Instr.sliceBounds, Sem.run_pure, run_bound (P := P) (w := w2) .i64 q c .slice3Acap ⟨by omega, hb.2.2.2⟩, run_bound (P := P) (w := w2) .i64 m q.toNat .slice3B ⟨by omega, by omega⟩,
        run_bound (P := P) (w := w2) .i64 n m.toNat .slice3C ⟨hb.1, by omega⟩, run_size hs, if_true, Option.isSome_some]
    · rename_i el sz hi hd
      have h_ := tLL_inv h
      clear h
      obtain ⟨A, l, c, hx, h⟩ := h_
      obtain ⟨hu, hs⟩ := sl_inv hT hd
      have h_ := vl_inv he h
      clear h
      obtain ⟨h, _⟩ := h_
      have h_ := tIL_inv h
      clear h
      obtain ⟨m, hm, h⟩ := h_
      have h_ := vl_inv he h
      clear h
      obtain ⟨h, _⟩ := h_
      have h_ := tIL_inv h
      clear h
      obtain ⟨q, hq, h⟩ := h_
      have h_ := cut3_inv h
      clear h
      obtain ⟨hb, h⟩ := h_
      refine ⟨_, w, h, .pure fun w2 => ?_⟩
      simp only [execOp, ho, hx, Option.map_some, hm, hq, Option.map_none]
      refine value_ok ?_
      simp only [Instr.sliceAt, Sem.run_bind, run_und hu, Result.andThen_ok, Instr.slice, Instr.sliceBounds, Sem.run_pure, run_bound (P := P) (w := w2) .i64 q c .slice3Acap ⟨by omega, hb.2.2.2⟩, run_bound (P := P) (w := w2) .i64 m q.toNat .slice3B ⟨by omega, by omega⟩,
        run_size hs, if_true, Option.isSome_some, Int.toNat_zero]
    · cases h
end
end Go.Proofs.Ytdcdgmiojlldaaa.Big
