/- The big-step reading of a whole function is true of the machine. -/
import Derived.Test.YtdcdgmiojlldaaaB9
namespace Go.Proofs.Ytdcdgmiojlldaaa.Big
open Go
set_option linter.unusedVariables false
set_option linter.unusedSimpArgs false

noncomputable def rsOf (T : TT) (l : List ResultVar) : Option (List RV) :=
  List.rec (motive := fun _ => Option (List RV)) (some []) (fun x _ ih => match x with
    | .tmp t => ih.map (.tmp t :: ·)
    | .cell t ty => (kdOf T ty).bind fun k => ih.map (.cell t k :: ·)) l
def resOf (tmps : Array Value) : ResultVar → Sem Value
  | .tmp t => pure (tmps.getD t undef)
  | .cell a t => do loadVar t (← asAddr (tmps.getD a undef))
section
variable {P : Program} {T : TT} {O : Orc} {N : Nat} {rs : List RV} {n : Nat} {e : Env} {a : Act} {w : World}
theorem getD_of {a : Act} {t : Nat} {v : Value} (h : a.tmps[t]? = some v) : a.tmps.getD t undef = v := by
  rw [Array.getD_eq_getD_getElem?, h]; rfl
theorem retL_run (hT : TOk P T) (he : EnvOk N e a) {r : Res} : ∀ (l : List ResultVar) (rs : List RV) {f : List Value → Option Res}, rsOf T l = some rs → retL rs e w f = some r →
    ∃ vs, f vs = some r ∧ (l.mapM (resOf a.tmps)).run P w = .ok vs w
  | [], rs, f, hl, h => by
    injection hl with hl; subst hl
    exact ⟨[], h, rfl⟩
  | .tmp t :: l, rs, f, hl, h => by
    have hl : (rsOf T l).map (.tmp t :: ·) = some rs := hl
    cases hl' : rsOf T l with
    | none => rw [hl'] at hl; cases hl
    | some rs' =>
      rw [hl'] at hl; injection hl with hl; subst hl
      obtain ⟨v, hv, h⟩ := optL_inv (x := look t e) (f := fun v => retL rs' e w fun vs => f (v :: vs)) h
      obtain ⟨vs, h1, h2⟩ := retL_run hT he l rs' hl' h
      refine ⟨_, h1, ?_⟩
      simp [List.mapM_cons, resOf, getD_of (he.get _ _ hv), h2]
  | .cell t ty :: l, rs, f, hl, h => by
    have hl : (kdOf T ty).bind (fun k => (rsOf T l).map (.cell t k :: ·)) = some rs := hl
    cases hk : kdOf T ty with
    | none => rw [hk] at hl; cases hl
    | some k =>
      rw [hk, Option.bind_some] at hl
      cases hl' : rsOf T l with
      | none => rw [hl'] at hl; cases hl
      | some rs' =>
        rw [hl'] at hl; injection hl with hl; subst hl
        obtain ⟨v, hv, h⟩ := optL_inv (x := look t e) (f := fun v => tPL v fun p => optL p fun a => ldK k w a fun v => retL rs' e w fun vs => f (v :: vs)) h
        obtain ⟨p, rfl, h⟩ := tPL_inv h
        obtain ⟨p, rfl, h⟩ := optL_inv h
        obtain ⟨u, h, hld⟩ := ldK_inv hT hk h
        obtain ⟨vs, h1, h2⟩ := retL_run hT he l rs' hl' h
        refine ⟨_, h1, ?_⟩
        simp [List.mapM_cons, resOf, getD_of (he.get _ _ hv), asAddr, hld, h2]
theorem unL_arr (vs : List Value) : (if h : vs.toArray.size = 1 then vs.toArray[0] else .tuple vs.toArray) = unL vs := by
  match vs with
  | [] => rfl
  | [v] => rfl
  | v :: u :: vs => simp [unL]
theorem results_ok (hT : TOk P T) (he : EnvOk N e a) {fn : Func} (hl : rsOf T fn.results.toList = some rs) {r : Res} (h : retK rs e w = some r) : (results fn a.tmps).run P w = .ok (unL r.vals) w ∧ r.w = w := by
  obtain ⟨vs, h1, h2⟩ := retL_run hT he _ rs hl h
  injection h1 with h1; subst h1
  refine ⟨?_, rfl⟩
  have e1 : results fn a.tmps = (do let vs ← fn.results.mapM (resOf a.tmps); pure (if h : vs.size = 1 then vs[0] else .tuple vs)) := by
    unfold results; congr 1
  rw [e1]
  simp only [Array.mapM_eq_mapM_toList, Sem.run_bind, Sem.run_map, h2]
  simpa using unL_arr vs

/-- What is asked of a function. -/
structure FnOk (P : Program) (T : TT) (k : FuncId) (fn : Func) (c : Code) (an : Ann) (rs : List RV) (ar : Nat) : Prop where
  at_ : P.funcs[k]? = some fn
  body : fn.body = some c
  arity : Nat.ble ar fn.ntmps = true
  rs : rsOf T fn.results.toList = some rs
  ok : ok2 fn.ntmps T c an = true
  host : (fn.name == "runtime.NumGoroutine") = false
theorem range_zip (vs : List Value) : ∀ (i t : Nat) (v : Value), look t ((List.range' i vs.length).zip vs) = some v → ∃ j, t = i + j ∧ vs[j]? = some v := by
  induction vs with
  | nil => intro i t v h; cases h
  | cons x vs ih =>
    intro i t v h
    simp only [List.length_cons, List.range'_succ, List.zip_cons_cons] at h
    rcases look_cons h with ⟨rfl, rfl⟩ | ⟨_, h⟩
    · exact ⟨0, rfl, rfl⟩
    · obtain ⟨j, h1, h2⟩ := ih _ _ _ h
      exact ⟨j + 1, by omega, by simpa using h2⟩
theorem evF_calls (hT : TOk P T) (hO : OOk P O) (hmix : P.follows .mixedOrders = true) {k : FuncId} {fn : Func} {c : Code} {an : Ann} {ar : Nat} (hf : FnOk P T k fn c an rs ar) {vs us : List Value} {w' : World}
    (h : evF P T O k n rs ar c an vs w = some (us, w')) : Calls P k vs.toArray w fun e w'' => e = .returned (unL us) ∧ w'' = w' := by
  unfold evF at h
  cases hlen : Nat.beq vs.length ar with
  | false => rw [hlen] at h; cases h
  | true =>
    rw [hlen, cond_true] at h
    have hlen := Nat.eq_of_beq_eq_true hlen
    have har : ar ≤ fn.ntmps := Nat.le_of_ble_eq_true hf.arity
    obtain ⟨r, h1, h2⟩ := opt_inv (x := ev2 P T O k n rs c an [] (fun _ _ _ => none) ((List.range vs.length).zip vs) w (retK rs)) (f := fun r => match r.ex with | .ret => some (r.vals, r.w) | _ => none) h
    have he : EnvOk fn.ntmps ((List.range vs.length).zip vs) { tmps := vs.toArray ++ Array.replicate (fn.ntmps - vs.toArray.size) undef, defers := [] } := by
      refine ⟨by simp; omega, rfl, fun t v h => ?_⟩
      rw [List.range_eq_range'] at h
      obtain ⟨j, h1, h2⟩ := range_zip vs 0 t v h
      have : t = j := by omega
      subst this
      have hlt : t < vs.length := (List.getElem?_eq_some_iff.1 h2).1
      rw [Array.getElem?_append_left (by simpa using hlt)]
      simpa using h2
    refine calls_of_wf hf.at_ hf.body (wf_mono (ev2_ok (N := fn.ntmps) hT hO hmix c an hf.ok [] (fun _ _ _ => none) _ _ w (retK rs) r he h1) fun ex a' w1 hp => ?_)
    have fin : ∀ e', EnvOk fn.ntmps e' a' → retK rs e' w1 = some r → a'.defers = [] ∧ ∃ v, (results fn a'.tmps).run P w1 = .ok v w1 ∧ (Ending.returned v = .returned (unL us) ∧ w1 = w') := by
      intro e' he' hk
      obtain ⟨h3, h4⟩ := results_ok hT he' hf.rs hk
      rw [(retK_some hk).1] at h2
      injection h2 with h2; injection h2 with h5 h6
      exact ⟨he'.defers, _, h3, by rw [h5], by rw [← h4, h6]⟩
    cases ex with
    | normal => obtain ⟨e', he', hk⟩ := hp; exact fin e' he' hk
    | ret => obtain ⟨e', he', hk⟩ := hp; exact fin e' he' hk
    | exit id => obtain ⟨e', slots, _, hl, _⟩ := hp; cases hl
    | goto l => obtain ⟨e', _, hk⟩ := hp; cases hk
    | panic => exact hp.elim
    | outgrown => exact hp.elim
theorem callFunc_run {k : FuncId} {fn : Func} {c : Code} (hf : P.funcs[k]? = some fn) (hb : fn.body = some c) (hh : (fn.name == "runtime.NumGoroutine") = false) (args : Array Value) : (callFunc k args).run P w = .ok (.enter k args) w := by
  unfold callFunc
  simp [hf, hh, hb]
  simp only [beq_eq_false_iff_ne, ne_eq] at hh
  simp [hh]
/-- A row of the oracle. -/
def Row (P : Program) (k : FuncId) (run : CallF) : Prop := ∀ vs w us w', run vs w = some (us, w') → ResOk P ((callFunc k vs.toArray).run P w) (unL us) w'
theorem evF_row (hT : TOk P T) (hO : OOk P O) (hmix : P.follows .mixedOrders = true) {k : FuncId} {fn : Func} {c : Code} {an : Ann} {ar : Nat} (hf : FnOk P T k fn c an rs ar) : Row P k (evF P T O k n rs ar c an) := by
  intro vs w us w' h
  rw [callFunc_run hf.at_ hf.body hf.host]
  exact evF_calls hT hO hmix hf h
theorem OOk.nil : OOk P [] := fun f run h => by cases h
theorem OOk.cons {k : FuncId} {run : CallF} {O : Orc} (h : Row P k run) (hO : OOk P O) : OOk P ((k, run) :: O) := fun f run' hl => by
  rcases look_cons hl with ⟨rfl, rfl⟩ | ⟨_, hl⟩
  · exact h
  · exact hO f run' hl
theorem TOk.nil : TOk P [] := fun t i h => by cases h
theorem TOk.cons {t : TypeId} {i : TI} {T : TT} (h : okT P t i) (hT : TOk P T) : TOk P ((t, i) :: T) := fun t' i' hl => by
  rcases look_cons hl with ⟨rfl, rfl⟩ | ⟨_, hl⟩
  · exact h
  · exact hT t' i' hl
def szB (P : Program) (t : TypeId) (n : Nat) : Bool := match P.info? t with | some x => Nat.beq x.size n | none => false
theorem szB_ok {t : TypeId} {n : Nat} (h : szB P t n = true) : (P.info? t).map (·.size) = some n := by
  unfold szB at h; split at h
  · rename_i x hx; rw [hx]; simp only [Option.map_some]; rw [Nat.eq_of_beq_eq_true h]
  · cases h
/-- A table's row, looked at. -/
def okTB (P : Program) (t : TypeId) (i : TI) : Bool :=
  (match i.d with
   | .int k => match P.underlying t with | some (.int k') => decide (k' = k) | _ => false
   | .bool => match P.underlying t with | some .bool => true | _ => false
   | .str => match P.underlying t with | some .string => true | _ => false
   | .sl e sz => match P.underlying t with | some (.slice e') => Nat.beq e' e && szB P e sz | _ => false
   | .arr n sz => match P.underlying t with | some (.array n' e) => Nat.beq n' n && szB P e sz && Nat.ble 2 n | _ => false
   | .i2 k => match P.underlying t with | some (.array n e) => Nat.beq n 2 && szB P e 1 && (match P.underlying e with | some (.int k') => decide (k' = k) | _ => false) | _ => false
   | .ptr => match P.underlying t with | some (.pointer _) => true | _ => false
   | .map => match P.underlying t with | some (.map _ _) => true | _ => false
   | _ => true) &&
  (match i.d with
   | .tup _ => true
   | _ => match i.kd with
     | .lf _ => (match P.underlying t with | some (.struct _) => false | some (.array _ _) => false | some _ => true | none => false) && szB P t 1
     | .agg ls => (match P.underlying t with | some (.struct _) => true | some (.array _ _) => true | _ => false) && szB P t ls.length)
theorem okTB_ok {t : TypeId} {i : TI} (h : okTB P t i = true) : okT P t i := by
  unfold okTB at h
  rw [Bool.and_eq_true] at h
  obtain ⟨h1, h2⟩ := h
  constructor
  · cases hd : i.d <;> simp only [hd] at h1 ⊢
    case int k => split at h1 <;> simp_all
    case bool => split at h1 <;> simp_all
    case str => split at h1 <;> simp_all
    case sl e sz =>
      split at h1
      · rename_i hu; simp only [Bool.and_eq_true] at h1; rw [hu, Nat.eq_of_beq_eq_true h1.1]; exact ⟨rfl, szB_ok h1.2⟩
      · cases h1
    case arr n sz =>
      split at h1
      · rename_i n' e hu; simp only [Bool.and_eq_true] at h1; exact ⟨e, by rw [hu, Nat.eq_of_beq_eq_true h1.1.1], szB_ok h1.1.2, Nat.le_of_ble_eq_true h1.2⟩
      · cases h1
    case i2 k =>
      split at h1
      · rename_i n e hu
        simp only [Bool.and_eq_true] at h1
        refine ⟨e, by rw [hu, Nat.eq_of_beq_eq_true h1.1.1], ?_, szB_ok h1.1.2⟩
        have := h1.2
        split at this <;> simp_all
      · cases h1
    case ptr => split at h1; · exact ⟨_, by assumption⟩
                cases h1
    case map => split at h1; · exact ⟨_, _, by assumption⟩
                cases h1
  · have go : (match i.kd with
     | .lf _ => (match P.underlying t with | some (.struct _) => false | some (.array _ _) => false | some _ => true | none => false) && szB P t 1
     | .agg ls => (match P.underlying t with | some (.struct _) => true | some (.array _ _) => true | _ => false) && szB P t ls.length) = true → (match i.kd with
     | .lf _ => (match P.underlying t with | some (.struct _) => False | some (.array _ _) => False | some _ => True | none => False) ∧ (P.info? t).map (·.size) = some 1
     | .agg ls => (match P.underlying t with | some (.struct _) => True | some (.array _ _) => True | _ => False) ∧ (P.info? t).map (·.size) = some ls.length) := by
      intro h
      cases hk : i.kd <;> simp only [hk, Bool.and_eq_true] at h ⊢
      · refine ⟨?_, szB_ok h.2⟩
        have := h.1
        split at this <;> simp_all
      · refine ⟨?_, szB_ok h.2⟩
        have := h.1
        split at this <;> simp_all
    cases hd : i.d <;> simp only [hd] at h2 ⊢ <;> first | trivial | exact go h2
theorem TOk.of_all {T : TT} (h : T.all (fun p => okTB P p.1 p.2) = true) : TOk P T := fun t i hl => okTB_ok (List.all_eq_true.1 h (t, i) (look_mem hl))
end
end Go.Proofs.Ytdcdgmiojlldaaa.Big
