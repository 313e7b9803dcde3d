/- What the big-step reading computes of one operation is what the machine does: arithmetic, conversions, calls; and all operations together. -/
import Derived.Test.YtdcdgmiojlldaaaB4
namespace Go.Proofs.Ytdcdgmiojlldaaa.Big
open Go
set_option linter.unusedVariables false
set_option linter.unusedSimpArgs false
section
variable {α : Type} {r : α} {P : Program} {T : TT} {w : World} {O : Orc} {N : Nat} {e : Env} {a : Act} {o : Oper} {k : Value → World → Option α}
theorem eqGuard_int (op : BinOp) (t : TypeId) (x y : Operand) (k1 k2 : IntKind) (m n : Int) : eqGuard op t x y (.int k1 m) (.int k2 n) = pure () := by
  unfold eqGuard; cases op <;> rfl
theorem arith_inv {op : BinOp} {t : TypeId} {k1 k2 : IntKind} {m n : Int} {f : Value → Option α} (hk : (isShift op || decide (k1 = k2)) = true) (h : arith op k1 m n f = some r) :
    ∃ v, f v = some r ∧ ∀ w, (binOp op t (.int k1 m) (.int k2 n)).run P w = .ok v w := by
  cases op <;> simp only [arith] at h <;> first | (cases h; done) | skip
  · split at h
    · cases h
    · rename_i hn
      refine ⟨_, h, fun w => ?_⟩
      simp only [isShift, Bool.false_or, decide_eq_true_eq] at hk
      subst hk
      simp [binOp, Op.intDiv, hn]
  · split at h
    · cases h
    · rename_i hn
      refine ⟨_, h, fun w => ?_⟩
      simp only [isShift, Bool.false_or, decide_eq_true_eq] at hk
      subst hk
      simp [binOp, Op.intDiv, hn]
  · split at h
    · cases h
    · rename_i hn
      exact ⟨_, h, fun w => by simp [binOp, Op.shift, hn]⟩
  · split at h
    · cases h
    · rename_i hn
      exact ⟨_, h, fun w => by simp [binOp, Op.shift, hn]⟩
theorem eqOp_inv {op : BinOp} {b : Bool} {f : Value → Option α} (h : eqOp op b f = some r) : (op = .eql ∧ f (.bool b) = some r) ∨ (op = .neq ∧ f (.bool (!b)) = some r) := by
  cases op <;> simp only [eqOp] at h <;> first | exact .inl ⟨rfl, h⟩ | exact .inr ⟨rfl, h⟩ | cases h
theorem run_eq (t : TypeId) (x y : Value) (b : Bool) (h : (Op.equalIn (9999 + 1) t x y).run P w = .ok b w) : (Op.equal t x y).run P w = .ok b w := h
theorem eqNil_inv (hT : TOk P T) {t : TypeId} {x y : Value} {op : BinOp} {f : Value → Option α} (h : eqNil (dOf T t) x y op f = some r) :
    ∃ b, eqOp op b f = some r ∧ (∀ w, (Op.equal t x y).run P w = .ok b w) ∧ (∀ x' y', eqGuard op t x' y' x y = pure ()) ∧ ∀ op', binOp op' t x y = match op' with | .eql => (do pure (.bool (← Op.equal t x y))) | .neq => (do pure (.bool (!(← Op.equal t x y)))) | _ => binOp op' t x y := by
  unfold eqNil at h
  split at h
  · rename_i hd
    obtain ⟨i, _, hi, ok⟩ := dOf_inv hT hd (by simp)
    have ok := ok.1; rw [hi] at ok; obtain ⟨e, hu⟩ := ok
    split at h
    · rename_i p
      refine ⟨_, h, fun w => run_eq _ _ _ _ ?_, fun x' y' => ?_, fun op' => ?_⟩
      · cases p <;> (unfold Op.equalIn; simp [run_und hu])
      · unfold eqGuard; cases op <;> rfl
      · cases op' <;> rfl
    · cases h
  · rename_i el sz hd
    obtain ⟨hu, _⟩ := sl_inv hT hd
    split at h
    · rename_i p _ _ _ _
      refine ⟨_, h, fun w => run_eq _ _ _ _ ?_, fun x' y' => ?_, fun op' => ?_⟩
      · cases p <;> (unfold Op.equalIn; simp [run_und hu])
      · unfold eqGuard; cases op <;> rfl
      · cases op' <;> rfl
    · cases h
  · rename_i hd
    obtain ⟨i, _, hi, ok⟩ := dOf_inv hT hd (by simp)
    have ok := ok.1; rw [hi] at ok; obtain ⟨kk, e, hu⟩ := ok
    split at h
    · rename_i p
      refine ⟨_, h, fun w => run_eq _ _ _ _ ?_, fun x' y' => ?_, fun op' => ?_⟩
      · cases p <;> (unfold Op.equalIn; simp [run_und hu])
      · unfold eqGuard; cases op <;> rfl
      · cases op' <;> rfl
    · cases h
  · cases h
section
variable {P : Program} {w : World}
theorem run_isAgg {e : TypeId} {k : IntKind} (he : P.underlying e = some (.int k)) : (isAgg e).run P w = .ok false w := by
  simp [isAgg, run_und he]
theorem run_part {e : TypeId} {k : IntKind} (he : P.underlying e = some (.int k)) {cs : Array Value} {o : Nat} {v : Value} (hv : cs[o]? = some v) : (part e cs o).run P w = .ok v w := by
  simp [part, run_isAgg he, hv]
theorem run_eqI {e : TypeId} {k : IntKind} (he : P.underlying e = some (.int k)) (d : Nat) (a b : Int) : (Op.equalIn (d + 1) e (.int k a) (.int k b)).run P w = .ok (a == b) w := by
  unfold Op.equalIn
  simp [run_und he]
theorem run_eq2 {t e : TypeId} {k : IntKind} (hu : P.underlying t = some (.array 2 e)) (he : P.underlying e = some (.int k)) (hs : (P.info? e).map (·.size) = some 1) (a b c d : Int) :
    (Op.equal t (.agg #[.int k a, .int k b]) (.agg #[.int k c, .int k d])).run P w = .ok (a == c && b == d) w := by
  have h1 : ∀ w : World, (Op.equalIn 9999 e (.int k a) (.int k c)).run P w = .ok (a == c) w := fun w => run_eqI he 9998 a c
  have h2 : ∀ w : World, (Op.equalIn 9999 e (.int k b) (.int k d)).run P w = .ok (b == d) w := fun w => run_eqI he 9998 b d
  show (Op.equalIn (9999 + 1) t (.agg #[.int k a, .int k b]) (.agg #[.int k c, .int k d])).run P w = _
  have p1 : ∀ (x y : Value) (w : World), (part e #[x, y] 0).run P w = .ok x w := fun x y w => run_part he rfl
  have p2 : ∀ (x y : Value) (w : World), (part e #[x, y] 1).run P w = .ok y w := fun x y w => run_part he rfl
  unfold Op.equalIn
  simp only [Sem.run_bind, run_und hu, run_size hs, Std.Legacy.Range.forIn_eq_forIn_range', Std.Legacy.Range.size]
  have hz : ∀ w : World, (sizeOf e).run P w = .ok 1 w := fun w => run_size hs
  simp [List.range', h1, h2, p1, p2, hz]
  by_cases h : a = c
  · rw [if_pos h]
    by_cases h' : b = d
    · simp [h, h']
    · simp [h, h']
  · rw [if_neg h]
    simp [h]
theorem run_guard2 {op : BinOp} {t e : TypeId} {k : IntKind} (hu : P.underlying t = some (.array 2 e)) (he : P.underlying e = some (.int k)) (hs : (P.info? e).map (·.size) = some 1) (x' y' : Operand) (a b c d : Int) :
    (eqGuard op t x' y' (.agg #[.int k a, .int k b]) (.agg #[.int k c, .int k d])).run P w = .ok () w := by
  have h1 : ∀ w : World, (Op.eqGuardIn 9999 e (.int k a) (.int k c)).run P w = .ok false w := fun w => by unfold Op.eqGuardIn; simp [run_und he]
  have h2 : ∀ w : World, (Op.eqGuardIn 9999 e (.int k b) (.int k d)).run P w = .ok false w := fun w => by unfold Op.eqGuardIn; simp [run_und he]
  have p1 : ∀ (x y : Value) (w : World), (part e #[x, y] 0).run P w = .ok x w := fun x y w => run_part he rfl
  have p2 : ∀ (x y : Value) (w : World), (part e #[x, y] 1).run P w = .ok y w := fun x y w => run_part he rfl
  have hz : ∀ w : World, (sizeOf e).run P w = .ok 1 w := fun w => run_size hs
  have key : ∀ w : World, (Op.eqGuardIn (9999 + 1) t (.agg #[.int k a, .int k b]) (.agg #[.int k c, .int k d])).run P w = .ok false w := fun w => by
    unfold Op.eqGuardIn
    simp only [Sem.run_bind, run_und hu, Std.Legacy.Range.forIn_eq_forIn_range', Std.Legacy.Range.size]
    simp [List.range', h1, h2, p1, p2, hz]
  have key : ∀ w : World, (Op.eqGuardIn Op.maxDepth t (.agg #[.int k a, .int k b]) (.agg #[.int k c, .int k d])).run P w = .ok false w := key
  unfold eqGuard
  cases op <;> simp [key] <;> split <;> simp
end
theorem eqI2_inv (hT : TOk P T) {t : TypeId} {x y : Value} {op : BinOp} {f : Value → Option α} (h : eqI2 (dOf T t) x y op f = some r) :
    ∃ b, eqOp op b f = some r ∧ (∀ w, (Op.equal t x y).run P w = .ok b w) ∧ (∀ x' y' w, (eqGuard op t x' y' x y).run P w = .ok () w) ∧ ∀ op', binOp op' t x y = match op' with | .eql => (do pure (.bool (← Op.equal t x y))) | .neq => (do pure (.bool (!(← Op.equal t x y)))) | _ => binOp op' t x y := by
  unfold eqI2 at h
  split at h
  · rename_i kk hd
    obtain ⟨i, _, hi, ok⟩ := dOf_inv hT hd (by simp)
    have ok := ok.1; rw [hi] at ok; obtain ⟨e, hu, he, hs⟩ := ok
    obtain ⟨xs, rfl, h2⟩ := tA_inv h; clear h
    obtain ⟨ys, rfl, h⟩ := tA_inv h2; clear h2
    obtain ⟨a, xs, rfl, h2⟩ := tC_inv h; clear h
    obtain ⟨b, xs, rfl, h⟩ := tC_inv h2; clear h2
    obtain ⟨rfl, h2⟩ := tN_inv h; clear h
    obtain ⟨c, ys, rfl, h⟩ := tC_inv h2; clear h2
    obtain ⟨d, ys, rfl, h2⟩ := tC_inv h; clear h
    obtain ⟨rfl, h⟩ := tN_inv h2; clear h2
    obtain ⟨a, rfl, h2⟩ := tI_inv h; clear h
    obtain ⟨b, rfl, h⟩ := tI_inv h2; clear h2
    obtain ⟨c, rfl, h2⟩ := tI_inv h; clear h
    obtain ⟨d, rfl, h⟩ := tI_inv h2; clear h2
    refine ⟨_, h, fun w => run_eq2 hu he hs a b c d, fun x' y' w => run_guard2 hu he hs x' y' a b c d, fun op' => ?_⟩
    cases op' <;> rfl
  · cases h
theorem op_binOp (hT : TOk P T) (he : EnvOk N e a) {op : BinOp} {t yt : TypeId} {x y : Operand} (ho : o.op = .binOp op t x y yt) (h : opE P T O o e w k = some r) : ∃ v w', k v w' = some r ∧ Fine P T o a w v w' := by
  simp only [opE, ho] at h
  cases ha : isArith op with
  | true =>
    rw [ha] at h
    obtain ⟨h2, _⟩ := vl_inv he h; clear h
    obtain ⟨h, _⟩ := vl_inv he h2; clear h2
    split at h
    · rename_i k1 m k2 n hx hy
      cases hk : (isShift op || decide (k1 = k2)) with
      | false => rw [hk] at h; cases h
      | true =>
        rw [hk] at h
        have h : arith op k1 m n (fun v => k v w) = some r := h
        obtain ⟨v, h2, hv⟩ := arith_inv (P := P) (t := t) (k2 := k2) hk h
        refine ⟨v, w, h2, .pure fun w2 => ?_⟩
        simp only [execOp, ho, hx, hy]
        refine value_ok ?_
        rw [eqGuard_int]
        simpa using hv w2
    · cases h
  | false =>
    rw [ha] at h
    cases hn : isNilable (dOf T t) with
    | true =>
      rw [hn] at h
      obtain ⟨h2, _⟩ := vl_inv he h; clear h
      obtain ⟨h, _⟩ := vl_inv he h2; clear h2
      obtain ⟨b, h2, hb, hg, hop⟩ := eqNil_inv (P := P) hT h
      rcases eqOp_inv h2 with ⟨rfl, h3⟩ | ⟨rfl, h3⟩
      · refine ⟨_, w, h3, .pure fun w2 => ?_⟩
        simp only [execOp, ho]
        refine value_ok ?_
        rw [hg, hop .eql]
        simp [hb w2]
      · refine ⟨_, w, h3, .pure fun w2 => ?_⟩
        simp only [execOp, ho]
        refine value_ok ?_
        rw [hg, hop .neq]
        simp [hb w2]
    | false =>
      rw [hn] at h
      cases hi : isI2 (dOf T t) with
      | true =>
        rw [hi] at h
        obtain ⟨h2, _⟩ := vl_inv he h; clear h
        obtain ⟨h, _⟩ := vl_inv he h2; clear h2
        obtain ⟨b, h2, hb, hg, hop⟩ := eqI2_inv (P := P) hT h
        rcases eqOp_inv h2 with ⟨rfl, h3⟩ | ⟨rfl, h3⟩
        · refine ⟨_, w, h3, .pure fun w2 => ?_⟩
          simp only [execOp, ho]
          refine value_ok ?_
          rw [hop .eql]
          simp [hb, hg]
        · refine ⟨_, w, h3, .pure fun w2 => ?_⟩
          simp only [execOp, ho]
          refine value_ok ?_
          rw [hop .neq]
          simp [hb, hg]
      | false =>
        rw [hi] at h
        obtain ⟨v, h2, hv⟩ := opP_inv (P := P) he (by simp [ho]) h
        exact ⟨v, w, h2, .pure hv⟩
theorem op_convert (hT : TOk P T) (he : EnvOk N e a) {s d : TypeId} {x : Operand} (ho : o.op = .convert s d x) (h : opE P T O o e w k = some r) : ∃ v w', k v w' = some r ∧ Fine P T o a w v w' := by
  simp only [opE, ho] at h
  split at h
  · rename_i el sz hs hd
    split at h
    · rename_i hel
      obtain ⟨h2, _⟩ := vl_inv he h; clear h
      obtain ⟨A, l, c, hx, h⟩ := tLL_inv h2; clear h2
      obtain ⟨str, hstr, h⟩ := opt_inv h
      refine ⟨_, w, h, .read (by simp [cls, ho, hd]) ?_⟩
      simp only [execOp, ho, hx]
      refine value_ok ?_
      have e1 := (sl_inv hT hs).1
      have e2 := str_inv hT hd
      have e3 := int_inv hT hel
      have e4 := strOf_inv (P := P) (c := c) hstr
      cases A <;> simp [Go.convert, run_und e1, run_und e2, run_und e3, e4]
    · cases h
  · obtain ⟨v, h2, hv⟩ := opP_inv (P := P) he (by simp [ho]) h
    exact ⟨v, w, h2, .read (by rename_i hs hd; simp [cls, ho, hd]) (hv w)⟩
  · rename_i el sz hn1 hn2 hd
    obtain ⟨h2, _⟩ := vl_inv he h; clear h
    obtain ⟨v, w', hv, h⟩ := rn_inv h2; clear h2
    obtain ⟨A, l, c, rfl, h2⟩ := tL_inv h
    refine ⟨_, w', h2, .eff (by simp [cls, ho, hd]) ?_⟩
    simp only [execOp, ho]
    exact value_ok hv
  · cases h
theorem op_rn {s : Sem Value} (hc : cls T o = .e) (hx : execOp a.eval o = (do pure (Next.value (← s)))) {v : Value} {w' : World} (hv : s.run P w = .ok v w') : Fine P T o a w v w' :=
  .eff hc (by rw [hx]; exact value_ok hv)
theorem resolve_builtin (ρ : Operand → Value) (b : Builtin) (as : Array Operand) (ts : Array TypeId) (t : TypeId) :
    (do let d ← resolve ρ { callee := .builtin b, args := as, argTypes := ts } t; invoke d.target d.args) = builtin b ts t (as.map fun | .const _ => true | _ => false) (as.map ρ) := rfl
theorem run_call (ρ : Operand → Value) (b : Builtin) (as : Array Operand) (ts : Array TypeId) (ho : o.op = .call { callee := .builtin b, args := as, argTypes := ts }) : execOp ρ o = builtin b ts o.type (as.map fun | .const _ => true | _ => false) (as.map ρ) := by
  simp only [execOp, ho]; rfl
theorem op_builtin (he : EnvOk N e a) {c : Call} {b : Builtin} (ho : o.op = .call c) (hb : c.callee = .builtin b) (h : opE P T O o e w k = some r) : ∃ v w', k v w' = some r ∧ Fine P T o a w v w' := by
  obtain ⟨callee, as, ts⟩ := c
  simp only at hb
  subst hb
  have hmap : ∀ vs, vs = as.toList.map a.eval → vs.toArray = as.map a.eval := by
    intro vs hv; rw [hv]; apply Array.ext'; simp
  simp only [opE, ho] at h
  cases b <;> simp only at h <;> first | (cases h; done) | skip
  case len =>
    cases hm : isMapArg T ts with
    | false =>
      rw [hm] at h
      obtain ⟨v, h2, hv⟩ := opP_inv (P := P) he (by simp [ho]) h
      exact ⟨v, w, h2, .pure hv⟩
    | true =>
      rw [hm] at h
      obtain ⟨h2, _⟩ := vls_inv he _ h; clear h
      obtain ⟨v, w', hv, h⟩ := rn_inv h2; clear h2
      obtain ⟨n, rfl, h2⟩ := tI_inv h
      rw [hmap _ rfl] at hv
      exact ⟨_, w', h2, .eff (by simp [cls, ho, hm]) (by rw [run_call _ _ _ _ ho]; simp [builtin, hv, ResOk])⟩
  case min => obtain ⟨v, h2, hv⟩ := opP_inv (P := P) he (by simp [ho]) h; exact ⟨v, w, h2, .pure hv⟩
  case max => obtain ⟨v, h2, hv⟩ := opP_inv (P := P) he (by simp [ho]) h; exact ⟨v, w, h2, .pure hv⟩
  case append =>
    obtain ⟨h2, _⟩ := vls_inv he _ h; clear h
    obtain ⟨v, w', hv, h⟩ := rn_inv h2; clear h2
    obtain ⟨A, l, c, rfl, h2⟩ := tL_inv h
    rw [hmap _ rfl] at hv
    exact ⟨_, w', h2, .eff (by simp [cls, ho]) (by rw [run_call _ _ _ _ ho]; simp [builtin, hv, ResOk])⟩
  case clear =>
    obtain ⟨h2, _⟩ := vls_inv he _ h; clear h
    obtain ⟨v, w', hv, h⟩ := rn_inv h2; clear h2
    rw [hmap _ rfl] at hv
    exact ⟨_, w', h, .eff (by simp [cls, ho]) (by rw [run_call _ _ _ _ ho]; simp [builtin, hv, ResOk])⟩
  case copy =>
    obtain ⟨h2, _⟩ := vls_inv he _ h; clear h
    obtain ⟨v, w', hv, h⟩ := rn_inv h2; clear h2
    rw [hmap _ rfl] at hv
    exact ⟨_, w', h, .eff (by simp [cls, ho]) (by rw [run_call _ _ _ _ ho]; simp [builtin, hv, ResOk])⟩
  case delete =>
    obtain ⟨h2, _⟩ := vls_inv he _ h; clear h
    obtain ⟨v, w', hv, h⟩ := rn_inv h2; clear h2
    rw [hmap _ rfl] at hv
    exact ⟨_, w', h, .eff (by simp [cls, ho]) (by rw [run_call _ _ _ _ ho]; simp [builtin, hv, ResOk])⟩
theorem op_callf (hO : OOk P O) (he : EnvOk N e a) {c : Call} {f : Operand} (ho : o.op = .call c) (hb : c.callee = .value f) (h : opE P T O o e w k = some r) : ∃ v w', k v w' = some r ∧ Fine P T o a w v w' := by
  obtain ⟨callee, as, ts⟩ := c
  simp only at hb
  subst hb
  simp only [opE, ho] at h
  obtain ⟨h2, _⟩ := vl_inv he h; clear h
  obtain ⟨g, first, caps, hf, h⟩ := tFL_inv h2; clear h2
  obtain ⟨g, rfl, h2⟩ := tGL_inv h; clear h
  obtain ⟨h, _⟩ := vls_inv he _ h2; clear h2
  obtain ⟨run, hrun, h2⟩ := optL_inv h; clear h
  obtain ⟨vs, w', hr, h⟩ := cl_inv h2; clear h2
  obtain ⟨ks, _, h2⟩ := optL_inv h; clear h
  have h := outs_inv h2
  refine ⟨_, w', h, .eff (by simp [cls, ho]) ?_⟩
  have := hO g run hrun _ w vs w' hr
  simp only [execOp, ho, resolve, hf, Deferred.ofValue, Sem.run_bind, Sem.run_pure, Result.andThen_ok, invoke]
  have e1 : (first ++ as.map a.eval ++ caps) = (first.toList ++ as.toList.map a.eval ++ caps.toList).toArray := by
    apply Array.ext'; simp
  rw [e1]
  exact this
theorem op_make (he : EnvOk N e a) {t : TypeId} {l c : Operand} (ho : o.op = .makeSlice t l c) (h : opE P T O o e w k = some r) : ∃ v w', k v w' = some r ∧ Fine P T o a w v w' := by
  simp only [opE, ho] at h
  obtain ⟨h2, _⟩ := vl_inv he h; clear h
  obtain ⟨h, _⟩ := vl_inv he h2; clear h2
  obtain ⟨v, w', hv, h2⟩ := rn_inv h; clear h
  obtain ⟨A, l, c, rfl, h⟩ := tL_inv h2
  exact ⟨_, w', h, op_rn (by simp [cls, ho]) (by simp only [execOp, ho]) hv⟩
theorem op_lookup (he : EnvOk N e a) {t : TypeId} {x i : Operand} {ok : Bool} (ho : o.op = .lookup t x i ok) (h : opE P T O o e w k = some r) : ∃ v w', k v w' = some r ∧ Fine P T o a w v w' := by
  simp only [opE, ho] at h
  obtain ⟨h2, _⟩ := vl_inv he h; clear h
  obtain ⟨h, _⟩ := vl_inv he h2; clear h2
  obtain ⟨v, w', hv, h2⟩ := rn_inv h; clear h
  obtain ⟨ks, _, h⟩ := optL_inv h2; clear h2
  split at h
  · exact ⟨_, w', ty_inv h, op_rn (by simp [cls, ho]) (by simp only [execOp, ho]) hv⟩
  · unfold luV at h
    split at h
    · rename_i vs
      have h2 := tys_inv _ h
      exact ⟨_, w', by simpa using h2, op_rn (by simp [cls, ho]) (by simp only [execOp, ho]) hv⟩
    · cases h
theorem op_mapUpdate (he : EnvOk N e a) {t : TypeId} {m i x : Operand} (ho : o.op = .mapUpdate t m i x) (h : opE P T O o e w k = some r) : ∃ v w', k v w' = some r ∧ Fine P T o a w v w' := by
  simp only [opE, ho] at h
  obtain ⟨h2, _⟩ := vl_inv he h; clear h
  obtain ⟨h, _⟩ := vl_inv he h2; clear h2
  obtain ⟨h2, _⟩ := vl_inv he h; clear h
  obtain ⟨v, w', hv, h⟩ := rn_inv h2; clear h2
  refine ⟨_, w', h, .eff (by simp [cls, ho]) ?_⟩
  simp only [execOp, ho]
  refine unit_ok ?_
  simp only [Sem.run_bind] at hv
  cases hr : (Instr.mapUpdate t (a.eval m) (a.eval i) (a.eval x)).run P w with
  | ok u w1 => rw [hr] at hv; simp at hv; rw [hv.2]
  | halt u w1 => rw [hr] at hv; simp at hv
theorem op_range (he : EnvOk N e a) {t : TypeId} {x : Operand} (ho : o.op = .range t x) (h : opE P T O o e w k = some r) : ∃ v w', k v w' = some r ∧ Fine P T o a w v w' := by
  simp only [opE, ho] at h
  obtain ⟨h2, _⟩ := vl_inv he h; clear h
  obtain ⟨v, w', hv, h⟩ := rn_inv h2; clear h2
  obtain ⟨a', rfl, h2⟩ := tD_inv h; clear h
  exact ⟨_, w', h2, op_rn (by simp [cls, ho]) (by simp only [execOp, ho]) hv⟩
theorem nxV_inv {α : Type} {r : α} {v : Value} {f : Option α} {g : Value → Value → Option α} (h : nxV v f g = some r) : (v = .tuple #[.bool false] ∧ f = some r) ∨ ∃ x y, v = .tuple #[.bool true, x, y] ∧ g x y = some r := by
  unfold nxV at h
  split at h
  · rename_i vs
    obtain ⟨u, us, e1, h2⟩ := tC_inv h; clear h
    obtain ⟨b, rfl, h⟩ := tB_inv h2; clear h2
    cases b with
    | true =>
      obtain ⟨x, us, rfl, h2⟩ := tC_inv h; clear h
      obtain ⟨y, us, rfl, h⟩ := tC_inv h2; clear h2
      obtain ⟨rfl, h2⟩ := tN_inv h; clear h
      exact .inr ⟨x, y, by rw [show vs = #[.bool true, x, y] from Array.toList_inj.1 e1], h2⟩
    | false =>
      obtain ⟨rfl, h2⟩ := tN_inv h; clear h
      exact .inl ⟨by rw [show vs = #[.bool false] from Array.toList_inj.1 e1], h2⟩
  · cases h
theorem enV_inv {α : Type} {r : α} {v : Value} {g : Value → Value → Option α} (h : enV v g = some r) : ∃ x y, v = .tuple #[x, y] ∧ g x y = some r := by
  unfold enV at h
  split at h
  · rename_i vs
    obtain ⟨x, us, e1, h2⟩ := tC_inv h; clear h
    obtain ⟨y, us, rfl, h⟩ := tC_inv h2; clear h2
    obtain ⟨rfl, h2⟩ := tN_inv h; clear h
    exact ⟨x, y, by rw [show vs = #[x, y] from Array.toList_inj.1 e1], h2⟩
  · cases h
theorem op_next (he : EnvOk N e a) {x : Operand} {s : Bool} (ho : o.op = .next x s) (h : opE P T O o e w k = some r) : ∃ v w', k v w' = some r ∧ Fine P T o a w v w' := by
  simp only [opE, ho] at h
  obtain ⟨h2, _⟩ := vl_inv he h; clear h
  obtain ⟨v, w', hv, h⟩ := rn_inv h2; clear h2
  rcases nxV_inv h with ⟨rfl, h2⟩ | ⟨x, y, rfl, h2⟩
  · exact ⟨_, w', h2, op_rn (by simp [cls, ho]) (by simp only [execOp, ho]) hv⟩
  · exact ⟨_, w', h2, op_rn (by simp [cls, ho]) (by simp only [execOp, ho]) hv⟩
theorem op_entry (he : EnvOk N e a) {x : Operand} (ho : o.op = .entry x) (h : opE P T O o e w k = some r) : ∃ v w', k v w' = some r ∧ Fine P T o a w v w' := by
  simp only [opE, ho] at h
  obtain ⟨h2, _⟩ := vl_inv he h; clear h
  obtain ⟨v, w', hv, h⟩ := rn_inv h2; clear h2
  obtain ⟨x, y, rfl, h2⟩ := enV_inv h
  exact ⟨_, w', h2, op_rn (by simp [cls, ho]) (by simp only [execOp, ho]) hv⟩
theorem op_extract (he : EnvOk N e a) {x : Operand} {i : Nat} (ho : o.op = .extract x i) (h : opE P T O o e w k = some r) : ∃ v w', k v w' = some r ∧ Fine P T o a w v w' := by
  simp only [opE, ho] at h
  obtain ⟨v, h2, hv⟩ := opR_inv (P := P) he (by simp [ho]) h
  split at h2
  · exact ⟨v, w, ty_inv h2, .pure hv⟩
  · exact ⟨v, w, frc_inv h2, .pure hv⟩
theorem opP_fine (he : EnvOk N e a) (hs : ∀ cs b, o.op ≠ .select cs b) (h : opP P o e (fun v => k v w) = some r) : ∃ v w', k v w' = some r ∧ Fine P T o a w v w' := by
  obtain ⟨v, h2, hv⟩ := opP_inv he hs h
  exact ⟨v, w, h2, .pure hv⟩
theorem opW_fine (he : EnvOk N e a) (hs : ∀ cs b, o.op ≠ .select cs b) (hc : cls T o = .e) (h : opW P o e w k = some r) : ∃ v w', k v w' = some r ∧ Fine P T o a w v w' := by
  obtain ⟨v, w', h2, hv⟩ := opW_inv he hs h
  exact ⟨v, w', h2, .eff hc hv⟩
theorem opE_inv (hT : TOk P T) (hO : OOk P O) (he : EnvOk N e a) (h : opE P T O o e w k = some r) : ∃ v w', k v w' = some r ∧ Fine P T o a w v w' := by
  cases ho : o.op
  case load => exact op_load hT he ho h
  case store => exact op_store hT he ho h
  case indexAddr => exact op_indexAddr hT he ho h
  case index => exact op_index hT he ho h
  case slice => exact op_slice hT he ho h
  case nilCheck => exact op_nilCheck he ho h
  case binOp => exact op_binOp hT he ho h
  case convert => exact op_convert hT he ho h
  case makeSlice => exact op_make he ho h
  case lookup => exact op_lookup he ho h
  case mapUpdate => exact op_mapUpdate he ho h
  case call c =>
    cases hc : c.callee with
    | value f => exact op_callf hO he ho hc h
    | builtin b => exact op_builtin he ho hc h
    | invoke x m => simp only [opE, ho, hc] at h; cases h
  case alloc => simp only [opE, ho] at h; exact opW_fine he (by simp [ho]) (by simp [cls, ho]) h
  case box => simp only [opE, ho] at h; exact opW_fine he (by simp [ho]) (by simp [cls, ho]) h
  case buildSlice => simp only [opE, ho] at h; exact opW_fine he (by simp [ho]) (by simp [cls, ho]) h
  case makeMap => simp only [opE, ho] at h; exact opW_fine he (by simp [ho]) (by simp [cls, ho]) h
  case range => exact op_range he ho h
  case next => exact op_next he ho h
  case entry => exact op_entry he ho h
  case move => simp only [opE, ho] at h; exact opP_fine he (by simp [ho]) h
  case assign => simp only [opE, ho] at h; exact opP_fine he (by simp [ho]) h
  case pick => simp only [opE, ho] at h; exact opP_fine he (by simp [ho]) h
  case build => simp only [opE, ho] at h; exact opP_fine he (by simp [ho]) h
  case field => simp only [opE, ho] at h; exact opP_fine he (by simp [ho]) h
  case unOp => simp only [opE, ho] at h; exact opP_fine he (by simp [ho]) h
  case makeFunc => simp only [opE, ho] at h; exact opP_fine he (by simp [ho]) h
  case extract => exact op_extract he ho h
  case fieldAddr => simp only [opE, ho] at h; exact opP_fine he (by simp [ho]) h
  all_goals (simp only [opE, ho] at h; cases h)
end
end Go.Proofs.Ytdcdgmiojlldaaa.Big
