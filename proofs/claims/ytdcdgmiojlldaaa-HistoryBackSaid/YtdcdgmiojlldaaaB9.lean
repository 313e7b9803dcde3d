/- The big-step reading is true of the machine. -/
import Derived.Test.YtdcdgmiojlldaaaBX
namespace Go.Proofs.Ytdcdgmiojlldaaa.Big
open Go
set_option linter.unusedVariables false
set_option linter.unusedSimpArgs false

/-! ### What is asked of the code -/
noncomputable def okM (g : Ann → Bool) (an : Ann) : Bool := match an with | .jn _ a => g a | a => g a
noncomputable def okC (N : Nat) (T : TT) (sc : Code → Ann → Bool) (c : Code) : Ann → Bool :=
  Code.rec (motive := fun _ => Ann → Bool)
    (fun _ => true)
    (fun _ ops draw => okM fun an => okDst N ops.toList && cond draw (match an with | .rg bits => chkR T bits ops | .rx p q o1 b1 o2 b2 => chkX T N p q o1 b1 o2 b2 ops | .rt t => chkT T N t ops | _ => true) true)
    (fun _ _ A B => okM fun an => match an with | .node l r => A l && B r | _ => true)
    (fun _ _ _ A B => okM fun an => match an with | .node l r => A l && B r | _ => true)
    (fun _ _ A an => match an with | .jn _ a => A a | .nb a => A a | _ => true)
    (fun _ A an => match an with | .lp _ a => A a | _ => true)
    (fun _ _ _ _ _ _ _ => true)
    (fun _ _ => true)
    (fun c _ => okM fun an => sc c an)
    (fun _ _ => true)
    (fun _ _ => true)
    (fun _ => true)
    (fun _ _ => true) c
noncomputable def ok1 (N : Nat) (T : TT) : Code → Ann → Bool := okC N T fun _ _ => true
noncomputable def okS (N : Nat) (T : TT) (c : Code) (an : Ann) : Bool :=
  match an with
  | .sc a ls => ok1 N T c a && ls.all fun p => match findLabel c p.1 with | some c' => ok1 N T c' p.2.2 | none => true
  | _ => true
noncomputable def ok2 (N : Nat) (T : TT) : Code → Ann → Bool := okC N T (okS N T)

section
variable {P : Program} {T : TT} {O : Orc} {N : Nat} {rs : List RV} {f : FuncId} {n : Nat}
/-- Where a piece of code comes out. -/
def Post (N : Nat) (rs : List RV) (ctx : Ctx) (kg : Kg) (k : K) (r : Res) : Exit → Act → World → Prop
  | .normal, a, w => ∃ e, EnvOk N e a ∧ k e w = some r
  | .exit id, a, w => ∃ e slots, EnvOk N e a ∧ look id ctx = some slots ∧ rst slots e (fun vs => some ⟨.exit id, vs, w⟩) = some r
  | .goto l, a, w => ∃ e, EnvOk N e a ∧ kg l e w = some r
  | .ret, a, w => ∃ e, EnvOk N e a ∧ retK rs e w = some r
  | _, _, _ => False
def Snd (P : Program) (f : FuncId) (N : Nat) (rs : List RV) (c : Code) (ok : Ann → Bool) (F : Cd) : Prop :=
  ∀ an, ok an = true → ∀ ctx kg e a w k r, EnvOk N e a → F an ctx kg e w k = some r → Wf P f c (Post N rs ctx kg k r) a w

theorem rst_inv {α : Type} {r : α} {a : Act} : ∀ (ts : List Nat) {e : Env} {f : List Value → Option α}, EnvOk N e a → rst ts e f = some r → ∃ vs, f vs = some r ∧ EnvOk N (ts.zip vs) a ∧ vs.length = ts.length
  | [], e, f, he, h => ⟨[], h, ⟨he.size, he.defers, fun t v h => by cases h⟩, rfl⟩
  | t :: ts, e, f, he, h => by
    obtain ⟨v, hv, h⟩ := optL_inv (x := look t e) (f := fun v => rst ts e fun vs => f (v :: vs)) h
    obtain ⟨vs, h1, h2, h3⟩ := rst_inv ts he h
    refine ⟨v :: vs, h1, ⟨he.size, he.defers, fun t' u hu => ?_⟩, by simp [h3]⟩
    rcases look_cons (e := ts.zip vs) hu with ⟨rfl, rfl⟩ | ⟨_, h'⟩
    · exact he.get _ _ hv
    · exact h2.get _ _ h'
theorem unp_inv {α : Type} {r : α} : ∀ (out : List (Nat × Kd)) {vs : List Value} {f : Env → Option α}, unp out vs f = some r → f ((out.map Prod.fst).zip vs) = some r
  | [], vs, f, h => by obtain ⟨rfl, h⟩ := tN_inv (x := f []) h; exact h
  | p :: out, vs, f, h => by
    obtain ⟨v, us, rfl, h⟩ := tC_inv (f := fun v vs => ty p.2 v fun v' => unp out vs fun e => f ((p.1, v') :: e)) h
    have h := ty_inv h
    exact unp_inv out h
theorem rst_some {α : Type} {r : α} : ∀ (ts : List Nat) {e : Env} {f : List Value → Option α}, rst ts e f = some r → ∃ vs, f vs = some r
  | [], e, f, h => ⟨[], h⟩
  | t :: ts, e, f, h => by
    obtain ⟨v, hv, h⟩ := optL_inv (x := look t e) (f := fun v => rst ts e fun vs => f (v :: vs)) h
    obtain ⟨vs, h⟩ := rst_some ts h
    exact ⟨_, h⟩
theorem retL_some {e : Env} {w : World} {r : Res} : ∀ (rs : List RV) {f : List Value → Option Res}, retL rs e w f = some r → ∃ vs, f vs = some r
  | [], f, h => ⟨[], h⟩
  | .tmp t :: rs, f, h => by
    obtain ⟨v, hv, h⟩ := optL_inv (x := look t e) (f := fun v => retL rs e w fun vs => f (v :: vs)) h
    obtain ⟨vs, h⟩ := retL_some rs h
    exact ⟨_, h⟩
  | .cell t k :: rs, f, h => by
    obtain ⟨v, hv, h⟩ := optL_inv (x := look t e) (f := fun v => tPL v fun p => optL p fun a => ldK k w a fun v => retL rs e w fun vs => f (v :: vs)) h
    obtain ⟨p, rfl, h⟩ := tPL_inv h
    obtain ⟨p, rfl, h⟩ := optL_inv h
    have : ∃ v, retL rs e w (fun vs => f (v :: vs)) = some r := by
      cases k with
      | lf l =>
        obtain ⟨u, _, h⟩ := opt_inv (x := w.cell? p) h
        exact ⟨_, (tyL_inv h).1⟩
      | agg ls =>
        have go : ∀ (ls : List Lf) (i : Nat) {f : List Value → Option Res}, ldLs w p ls i f = some r → ∃ cs, f cs = some r := by
          intro ls
          induction ls with
          | nil => intro i f h; exact ⟨[], h⟩
          | cons l ls ih =>
            intro i f h
            obtain ⟨u, _, h⟩ := opt_inv (x := w.cell? (p.add i)) (f := fun v => tyL l v fun v' => ldLs w p ls (i + 1) fun cs => f (v' :: cs)) h
            have h := (tyL_inv h).1
            obtain ⟨cs, h⟩ := ih _ h
            exact ⟨_, h⟩
        obtain ⟨cs, h⟩ := go ls 0 (f := fun cs => (fun v => retL rs e w fun vs => f (v :: vs)) (.agg cs.toArray)) h
        exact ⟨_, h⟩
    obtain ⟨v, h⟩ := this
    obtain ⟨vs, h⟩ := retL_some rs h
    exact ⟨_, h⟩
theorem retK_some {e : Env} {w : World} {r : Res} (h : retK rs e w = some r) : r.ex = .ret ∧ r.w = w := by
  obtain ⟨vs, h⟩ := retL_some rs h
  injection h with h; subst h; exact ⟨rfl, rfl⟩

theorem Snd.meets {c : Code} {ok : Ann → Bool} {g : Cd} (h : Snd P f N rs c ok g) : Snd P f N rs c (okM ok) (meets g) := by
  intro an hok ctx kg e a w k r he hr
  cases an with
  | jn out an =>
    obtain ⟨r1, h1, h2⟩ := opt_inv (x := g an ctx (fun _ _ _ => none) e w (outK out)) (f := fun r => match r.ex with | .norm => unp out r.vals fun e => k e r.w | _ => some r) hr
    refine wf_mono (h an hok ctx _ e a w _ r1 he h1) fun ex a' w' hp => ?_
    cases ex with
    | normal =>
      obtain ⟨e', he', hk⟩ := hp
      obtain ⟨vs, hv, hz, _⟩ := rst_inv _ he' hk
      injection hv with hv; subst hv
      exact ⟨_, hz, unp_inv out h2⟩
    | exit id =>
      obtain ⟨e', slots, he', hl, hk⟩ := hp
      obtain ⟨vs, hv⟩ := rst_some _ hk
      injection hv with hv; subst hv
      injection h2 with h2; subst h2
      exact ⟨e', slots, he', hl, hk⟩
    | goto l => obtain ⟨e', _, hk⟩ := hp; cases hk
    | ret =>
      obtain ⟨e', he', hk⟩ := hp
      have := retK_some hk
      rw [this.1] at h2
      injection h2 with h2; subst h2
      exact ⟨e', he', hk⟩
    | panic => exact hp
    | outgrown => exact hp
  | _ => exact h _ hok ctx kg e a w k r he hr

theorem ev_ok (hT : TOk P T) (hO : OOk P O) (hmix : P.follows .mixedOrders = true) {sc : Code → Ann → Bool} {scope : Code → Ann → Ctx → Env → World → K → Option Res}
    (hsc : ∀ c an, sc c an = true → ∀ ctx kg e a w k r, EnvOk N e a → scope c an ctx e w k = some r → Wf P f (Code.scope c) (Post N rs ctx kg k r) a w) (c : Code) :
    Snd P f N rs c (okC N T sc c) (ev P T O f n rs scope c) := by
  induction c with
  | skip => intro an _ ctx kg e a w k r he h; exact wf_of (wp_skip ⟨e, he, h⟩)
  | region id ops draw =>
    refine Snd.meets (g := fun an _ _ e w k => cond draw (match an with | .rg bits => regD P T O bits ops ops.toList 0 e w.drew [] [] k | .rx p q o1 b1 o2 b2 => regX P T O (ordB P f id ops p q w) p q o1 b1 o2 b2 ops e w k | .rt t => regT P T O (fun path p q => ordT P f id ops path p q w) e w k t [] ops | _ => none) (regE P T O ops ops.toList e w k))
      (ok := fun an => okDst N ops.toList && cond draw (match an with | .rg bits => chkR T bits ops | .rx p q o1 b1 o2 b2 => chkX T N p q o1 b1 o2 b2 ops | .rt t => chkT T N t ops | _ => true) true) ?_
    intro an hok ctx kg e a w k r he h
    simp only [Bool.and_eq_true] at hok
    cases draw with
    | false =>
      simp only [cond_false] at h
      refine wf_of (wp_region ?_)
      have := regE_inv (Q := Post N rs ctx kg k r) hT hO (fun e' a' w' he' hk => ⟨e', he', hk⟩) ops.toList 0 e a w (fun j => by simp) hok.1 he h
      simpa [List.range_eq_range'] using this
    | true =>
      simp only [cond_true] at h hok
      split at h
      · rename_i bits
        exact wf_of (regD_wp hT hO hmix (by simpa using hok.2) hok.1 he h fun e' a' w' he' hk => ⟨e', he', hk⟩)
      · rename_i p q o1 b1 o2 b2
        exact regX_wf hT hO hmix (by simpa using hok.2) he h fun e' a' w' he' hk => ⟨e', he', hk⟩
      · rename_i t
        exact regT_wf hT hO hmix (by simpa using hok.2) he h fun e' a' w' he' hk => ⟨e', he', hk⟩
      · cases h
  | seq x y ihx ihy =>
    refine Snd.meets (g := fun an ctx kg e w k => match an with | .node l r => ev P T O f n rs scope x l ctx kg e w fun e w => ev P T O f n rs scope y r ctx kg e w k | _ => none)
      (ok := fun an => match an with | .node l r => okC N T sc x l && okC N T sc y r | _ => true) ?_
    intro an hok ctx kg e a w k r he h
    cases an with
    | node l r' =>
      simp only [Bool.and_eq_true] at hok
      refine wf_seq (wf_mono (ihx l hok.1 ctx kg e a w _ r he h) fun ex a' w' hp => ?_)
      cases ex with
      | normal =>
        obtain ⟨e', he', hk⟩ := hp
        exact ihy r' hok.2 ctx kg e' a' w' k r he' hk
      | exit id => exact hp
      | goto l => exact hp
      | ret => exact hp
      | panic => exact hp
      | outgrown => exact hp
    | _ => cases h
  | cond x y z ihx ihy =>
    refine Snd.meets (g := fun an ctx kg e w k => vl x e fun v => tBL v fun b => match an with | .node l r => cond b (ev P T O f n rs scope y l ctx kg e w k) (ev P T O f n rs scope z r ctx kg e w k) | _ => none)
      (ok := fun an => match an with | .node l r => okC N T sc y l && okC N T sc z r | _ => true) ?_
    intro an hok ctx kg e a w k r he h
    obtain ⟨h, _⟩ := vl_inv he h
    obtain ⟨b, hb, h⟩ := tBL_inv h
    cases an with
    | node l r' =>
      simp only [Bool.and_eq_true] at hok
      cases b with
      | true => exact wf_cond (t := true) hb (ihx l hok.1 ctx kg e a w k r he h)
      | false => exact wf_cond (t := false) hb (ihy r' hok.2 ctx kg e a w k r he h)
    | _ => cases h
  | block id x ih =>
    intro an hok ctx kg e a w k r he h
    cases an with
    | jn out an =>
      obtain ⟨r1, h1, h2⟩ := opt_inv (x := ev P T O f n rs scope x an ((id, out.map Prod.fst) :: ctx) (fun _ _ _ => none) e w (outK out))
        (f := fun r => match r.ex with | .norm => unp out r.vals fun e => k e r.w | .exit i => cond (Nat.beq i id) (unp out r.vals fun e => k e r.w) (some r) | .ret => some r) h
      refine wf_block (wf_mono (ih an hok ((id, out.map Prod.fst) :: ctx) _ e a w _ r1 he h1) fun ex a' w' hp => ?_)
      cases ex with
      | normal =>
        obtain ⟨e', he', hk⟩ := hp
        obtain ⟨vs, hv, hz, _⟩ := rst_inv _ he' hk
        injection hv with hv; subst hv
        exact ⟨_, hz, unp_inv out h2⟩
      | exit i =>
        obtain ⟨e', slots, he', hl, hk⟩ := hp
        obtain ⟨vs, hv, hz, _⟩ := rst_inv _ he' hk
        injection hv with hv; subst hv
        simp only [Exit.inBlock]
        by_cases hi : i = id
        · subst hi
          rw [if_pos rfl]
          simp only [Nat.beq_refl, cond_true] at h2
          have : slots = out.map Prod.fst := by
            have hl : cond (Nat.beq i i) (some (out.map Prod.fst)) (look i ctx) = some slots := hl
            rw [Nat.beq_refl] at hl; injection hl with hl; exact hl.symm
          subst this
          exact ⟨_, hz, unp_inv out h2⟩
        · rw [if_neg hi]
          have hb : Nat.beq i id = false := Bool.eq_false_iff.2 fun h' => hi (Nat.eq_of_beq_eq_true h')
          simp only [hb, cond_false] at h2
          injection h2 with h2; subst h2
          rcases look_cons hl with ⟨h, _⟩ | ⟨_, hl⟩
          · exact absurd h hi
          · exact ⟨e', slots, he', hl, hk⟩
      | goto l => obtain ⟨e', _, hk⟩ := hp; cases hk
      | ret =>
        obtain ⟨e', he', hk⟩ := hp
        have := retK_some hk
        simp only [this.1] at h2
        injection h2 with h2; subst h2
        exact ⟨e', he', hk⟩
      | panic => exact hp
      | outgrown => exact hp
    | nb an =>
      have h : (match look id ctx with | none => ev P T O f n rs scope x an ctx kg e w k | some _ => none) = some r := h
      split at h
      · rename_i hn
        refine wf_block (wf_mono (ih an hok ctx kg e a w k r he h) fun ex a' w' hp => ?_)
        cases ex with
        | exit i =>
          simp only [Exit.inBlock]
          by_cases hi : i = id
          · subst hi
            obtain ⟨e', slots, _, hl, _⟩ := hp
            rw [hn] at hl; cases hl
          · rw [if_neg hi]; exact hp
        | normal => exact hp
        | goto l => exact hp
        | ret => exact hp
        | panic => exact hp
        | outgrown => exact hp
      · cases h
    | _ => cases h
  | loop x ih =>
    intro an hok ctx kg e a w k r he h
    cases an with
    | lp inn an =>
      obtain ⟨vs, h, hz, _⟩ := rst_inv (f := fun vs => iter (fun e w k => ev P T O f n rs scope x an ctx (fun _ _ _ => none) e w k) inn n (inn.zip vs) w) inn he h
      intro b kk cs hb
      have key : ∀ (m : Nat) (e : Env) (a : Act) (w : World), EnvOk N e a → iter (fun e w k => ev P T O f n rs scope x an ctx (fun _ _ _ => none) e w k) inn m e w = some r →
          ∃ ex a' w', Post N rs ctx kg k r ex a' w' ∧ Arrives P (lone (b.at a (.code x :: .inLoop x :: kk)) cs w) b kk cs ex a' w' := by
        intro m
        induction m with
        | zero => intro e a w _ h; cases h
        | succ m ihm =>
          intro e a w he h
          have h : ev P T O f n rs scope x an ctx (fun _ _ _ => none) e w (fun e' w' => rst inn e' fun vs => iter (fun e w k => ev P T O f n rs scope x an ctx (fun _ _ _ => none) e w k) inn m (inn.zip vs) w') = some r := h
          obtain ⟨ex, a₁, w₁, hq, harr⟩ := ih an hok ctx _ e a w _ r he h b (.inLoop x :: kk) cs hb
          cases ex with
          | normal =>
            obtain ⟨e', he', hk⟩ := hq
            obtain ⟨vs, hk, hz, _⟩ := rst_inv inn he' hk
            obtain ⟨e₂, a₂, w₂, hq₂, harr₂⟩ := ihm _ a₁ w₁ hz hk
            exact ⟨e₂, a₂, w₂, hq₂, .of_steps (Steps.trans harr (.one step_inLoop)) harr₂⟩
          | exit id => exact ⟨.exit id, a₁, w₁, hq, .pass (x := .inLoop x) rfl (fun _ _ => .inl (by simp)) harr⟩
          | goto l => obtain ⟨_, _, hk⟩ := hq; cases hk
          | ret => exact ⟨.ret, a₁, w₁, hq, .pass (x := .inLoop x) rfl (fun _ _ => .inl (by simp)) harr⟩
          | panic ch => exact hq.elim
          | outgrown => exact hq.elim
      obtain ⟨ex, a', w', hq, harr⟩ := key n _ a w hz h
      exact ⟨ex, a', w', hq, .of_steps (.one step_loop) harr⟩
    | _ => cases h
  | rangeFunc => intro an _ ctx kg e a w k r he h; cases h
  | exit id =>
    intro an _ ctx kg e a w k r he h
    obtain ⟨slots, hl, h⟩ := optL_inv (x := look id ctx) h
    exact wf_of (wp_exit ⟨e, slots, he, hl, h⟩)
  | scope x _ =>
    refine Snd.meets (g := fun an ctx _ e w k => scope x an ctx e w k) (ok := fun an => sc x an) ?_
    intro an hok ctx kg e a w k r he h
    exact hsc x an hok ctx kg e a w k r he h
  | label l => intro an _ ctx kg e a w k r he h; exact wf_of (wp_label ⟨e, he, h⟩)
  | goto l => intro an _ ctx kg e a w k r he h; exact wf_of (wp_goto ⟨e, he, h⟩)
  | ret => intro an _ ctx kg e a w k r he h; exact wf_of (wp_ret ⟨e, he, h⟩)
  | refuse => intro an _ ctx kg e a w k r he h; cases h

theorem ev1_ok (hT : TOk P T) (hO : OOk P O) (hmix : P.follows .mixedOrders = true) (c : Code) : Snd P f N rs c (ok1 N T c) (ev1 P T O f n rs c) :=
  ev_ok hT hO hmix (fun c an _ ctx kg e a w k r _ h => by cases h) c
theorem look_mem {β : Type} {t : Nat} {x : β} : ∀ {l : List (Nat × β)}, look t l = some x → (t, x) ∈ l
  | [], h => by cases h
  | (d, y) :: l, h => by
    have h : cond (Nat.beq d t) (some y) (look t l) = some x := h
    by_cases ht : d = t
    · subst ht; rw [Nat.beq_refl] at h; injection h with h; subst h; exact List.mem_cons_self
    · rw [Bool.eq_false_iff.2 fun h' => ht (Nat.eq_of_beq_eq_true h')] at h
      exact List.mem_cons_of_mem _ (look_mem h)
theorem scope_ok (hT : TOk P T) (hO : OOk P O) (hmix : P.follows .mixedOrders = true) (c : Code) (an : Ann) (hok : okS N T c an = true) (ctx : Ctx) (kg : Kg) (e : Env) (a : Act) (w : World) (k : K) (r : Res) (he : EnvOk N e a)
    (h : inScope P T O f n rs c an ctx e w k = some r) : Wf P f (Code.scope c) (Post N rs ctx kg k r) a w := by
  cases an with
  | sc an ls =>
    simp only [okS, Bool.and_eq_true, List.all_eq_true] at hok
    intro b kk cs hb
    have key : ∀ (m l : Nat) (e : Env) (a : Act) (w : World), EnvOk N e a → jumps P T O f n rs c ls ctx k m l e w = some r → ∃ c', findLabel c l = some c' ∧
        ∃ ex a' w', Post N rs ctx kg k r ex a' w' ∧ Arrives P (lone (b.at a (.code c' :: .inScope c :: kk)) cs w) b kk cs ex a' w' := by
      intro m
      induction m with
      | zero => intro l e a w _ h; cases h
      | succ m ihm =>
        intro l e a w he h
        have h : (optL (look l ls) fun p => optL (findLabel c l) fun c' => ev1 P T O f n rs c' p.2 ctx (fun l' e' w' => optL (look l' ls) fun q => rst q.1 e' fun vs => jumps P T O f n rs c ls ctx k m l' (q.1.zip vs) w') e w k) = some r := h
        obtain ⟨p, hp, h⟩ := optL_inv h
        obtain ⟨c', hc', h⟩ := optL_inv h
        have hokc : ok1 N T c' p.2 = true := by
          have := hok.2 (l, p) (look_mem hp)
          simp only [hc'] at this
          exact this
        refine ⟨c', hc', ?_⟩
        obtain ⟨ex, a₁, w₁, hq, harr⟩ := ev1_ok hT hO hmix c' p.2 hokc ctx _ e a w _ r he h b (.inScope c :: kk) cs hb
        cases ex with
        | normal => exact ⟨.normal, a₁, w₁, hq, Steps.trans harr (.one step_inScope)⟩
        | exit id => exact ⟨.exit id, a₁, w₁, hq, fun k' hk => harr k' (by simp [exitTo, hk])⟩
        | goto l' =>
          obtain ⟨e', he', hk⟩ := hq
          obtain ⟨q, hq, hk⟩ := optL_inv hk
          obtain ⟨vs, hk, hz, _⟩ := rst_inv _ he' hk
          obtain ⟨c2, hc2, ex, a₂, w₂, hq₂, harr₂⟩ := ihm l' _ a₁ w₁ hz hk
          exact ⟨ex, a₂, w₂, hq₂, .of_steps (harr _ (by simp [gotoIn, hc2])) harr₂⟩
        | ret => exact ⟨.ret, a₁, w₁, hq, harr⟩
        | panic ch => exact hq.elim
        | outgrown => exact hq.elim
    obtain ⟨ex, a₁, w₁, hq, harr⟩ := ev1_ok hT hO hmix c an hok.1 ctx _ e a w _ r he h b (.inScope c :: kk) cs hb
    cases ex with
    | normal => exact ⟨.normal, a₁, w₁, hq, .head step_scope (Steps.trans harr (.one step_inScope))⟩
    | exit id => exact ⟨.exit id, a₁, w₁, hq, fun k' hk => .head step_scope (harr k' (by simp [exitTo, hk]))⟩
    | goto l' =>
      obtain ⟨e', he', hk⟩ := hq
      obtain ⟨q, hq, hk⟩ := optL_inv hk
      obtain ⟨vs, hk, hz, _⟩ := rst_inv _ he' hk
      obtain ⟨c2, hc2, ex, a₂, w₂, hq₂, harr₂⟩ := key n l' _ a₁ w₁ hz hk
      exact ⟨ex, a₂, w₂, hq₂, .of_steps (.head step_scope (harr _ (by simp [gotoIn, hc2]))) harr₂⟩
    | ret => exact ⟨.ret, a₁, w₁, hq, .of_steps (b := b) (k := kk) (cs := cs) (e := .ret) (.one step_scope) harr⟩
    | panic ch => exact hq.elim
    | outgrown => exact hq.elim
  | _ => cases h
theorem ev2_ok (hT : TOk P T) (hO : OOk P O) (hmix : P.follows .mixedOrders = true) (c : Code) : Snd P f N rs c (ok2 N T c) (ev2 P T O f n rs c) :=
  ev_ok hT hO hmix (fun c an hok ctx kg e a w k r he h => scope_ok hT hO hmix c an hok ctx kg e a w k r he h) c
end
end Go.Proofs.Ytdcdgmiojlldaaa.Big
