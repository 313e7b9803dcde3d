/- A region that draws in which two effects stand in no order: either order is read; the world itself says which. -/
import Derived.Test.YtdcdgmiojlldaaaB8
namespace Go.Proofs.Ytdcdgmiojlldaaa.Big
open Go
set_option linter.unusedVariables false
set_option linter.unusedSimpArgs false

/-- Code as it runs in frames of one function. -/
def Wf (P : Program) (f : FuncId) (c : Code) (Q : Exit → Act → World → Prop) (a : Act) (w : World) : Prop :=
  ∀ (b : Frame) (k : List Item) (cs : List Frame), b.fn = f → ∃ e a' w', Q e a' w' ∧ Arrives P (lone (b.at a (.code c :: k)) cs w) b k cs e a' w'
section
variable {P : Program} {f : FuncId} {Q : Exit → Act → World → Prop} {a : Act} {w : World}
theorem wf_of {c : Code} (h : c.wp P Q a w) : Wf P f c Q a w := fun b k cs _ => h b k cs
theorem wf_mono {c : Code} {Q' : Exit → Act → World → Prop} (h : Wf P f c Q a w) (hq : ∀ e a w, Q e a w → Q' e a w) : Wf P f c Q' a w :=
  fun b k cs hb => let ⟨e, a', w', q, r⟩ := h b k cs hb; ⟨e, a', w', hq _ _ _ q, r⟩
theorem wf_seq {x y : Code} (h : Wf P f x (Exit.then (Wf P f y Q) Q) a w) : Wf P f (.seq x y) Q a w := by
  intro b k cs hb
  obtain ⟨e, a1, w1, hq, har⟩ := h b (.code y :: k) cs hb
  cases e with
  | normal =>
    obtain ⟨e2, a2, w2, hq2, har2⟩ := hq b k cs hb
    exact ⟨e2, a2, w2, hq2, .of_steps (.head step_seq har) har2⟩
  | exit id => exact ⟨_, a1, w1, hq, .of_steps (.one step_seq) (.pass (x := .code y) rfl (fun _ _ => .inl (by simp)) har)⟩
  | goto l => exact ⟨_, a1, w1, hq, .of_steps (.one step_seq) (.pass (x := .code y) rfl (fun _ _ => .inl (by simp)) har)⟩
  | ret => exact ⟨_, a1, w1, hq, .of_steps (.one step_seq) (.pass (x := .code y) rfl (fun _ _ => .inl (by simp)) har)⟩
  | panic ch => exact ⟨_, a1, w1, hq, .of_steps (.one step_seq) (.pass (x := .code y) rfl (fun _ _ => .inl (by simp)) har)⟩
  | outgrown => exact ⟨_, a1, w1, hq, .of_steps (.one step_seq) (.pass (x := .code y) rfl (fun _ _ => .inl (by simp)) har)⟩
theorem wf_cond {c : Operand} {x y : Code} {t : Bool} (hc : a.eval c = .bool t) (h : Wf P f (if t then x else y) Q a w) : Wf P f (.cond c x y) Q a w :=
  fun b k cs hb => let ⟨e, a', w', q, r⟩ := h b k cs hb; ⟨e, a', w', q, .of_steps (.one (step_cond hc)) r⟩
theorem wf_block {id : Nat} {c : Code} (h : Wf P f c (Exit.inBlock id Q) a w) : Wf P f (.block id c) Q a w := by
  intro b k cs hb
  obtain ⟨e, a1, w1, hq, har⟩ := h b (.inBlock id :: k) cs hb
  cases e with
  | normal => exact ⟨.normal, a1, w1, hq, .head step_block (Steps.trans har (.one step_inBlock))⟩
  | exit i =>
    by_cases hi : i = id
    · simp only [Exit.inBlock, hi, if_true] at hq
      exact ⟨.normal, a1, w1, hq, .head step_block (har k (by simp [exitTo, hi]))⟩
    · simp only [Exit.inBlock, hi, if_false] at hq
      refine ⟨.exit i, a1, w1, hq, fun k' hk => .head step_block (har k' ?_)⟩
      have : (id == i) = false := by simp; exact fun h => hi h.symm
      simp [exitTo, this, hk]
  | goto l => exact ⟨_, a1, w1, hq, fun k' hk => .head step_block (har k' (by simp [gotoIn, hk]))⟩
  | ret => exact ⟨_, a1, w1, hq, .of_steps (.one step_block) har⟩
  | panic ch => exact ⟨_, a1, w1, hq, .of_steps (.one step_block) har⟩
  | outgrown => exact ⟨_, a1, w1, hq, .of_steps (b := b) (k := k) (cs := cs) (e := .outgrown) (.one step_block) har⟩
theorem calls_of_wf {fn : Func} {c : Code} {args : Array Value} {R : Ending → World → Prop} (hf : P.funcs[f]? = some fn) (hb : fn.body = some c)
    (h : Wf P f c (bodyPost P fn R) { tmps := args ++ Array.replicate (fn.ntmps - args.size) undef, defers := [] } w) : Calls P f args w R := by
  intro cs
  have hen : Frame.enter P f args .normal = ({ (default : Frame) with fn := f, kind := .normal } : Frame).at { tmps := args ++ Array.replicate (fn.ntmps - args.size) undef, defers := [] } [.code c] := by
    simp [Frame.enter, Frame.at, hf, hb]
  obtain ⟨e, a', w', hq, har⟩ := h { (default : Frame) with fn := f, kind := .normal } [] cs rfl
  rw [← hen] at har
  cases e with
  | normal =>
    obtain ⟨hd, v, hr, hR⟩ := hq
    exact ⟨.returned v, w', _, hR, Steps.trans har (.one step_end), rfl, rfl, hd, rfl, fn, hf, hr⟩
  | ret =>
    obtain ⟨hd, v, hr, hR⟩ := hq
    obtain ⟨todo, hs⟩ := har
    exact ⟨.returned v, w', _, hR, hs, rfl, rfl, hd, rfl, fn, hf, hr⟩
  | panic chain =>
    obtain ⟨hd, hR⟩ := hq
    obtain ⟨todo, hs⟩ := har
    exact ⟨.panicked chain, w', _, hR, hs, rfl, rfl, hd, fn, hf⟩
  | exit id => exact hq.elim
  | goto l => exact hq.elim
  | outgrown => exact ⟨.outgrown, w', { (default : Frame) with fn := f, kind := .normal }, hq, har.resolve_left (by simp), rfl, trivial⟩
end

/-! ### The order that comes up -/
inductive Topo (ops : Array Oper) : Array Bool → List Nat → Prop
  | nil {L : Array Bool} : Region.ready .any ops L = [] → Topo ops L []
  | cons {L : Array Bool} {i : Nat} {s : List Nat} : i ∈ Region.ready .any ops L → Topo ops (L.setIfInBounds i true) s → Topo ops L (i :: s)
def Fst (p q : Nat) (L : Array Bool) (s : List Nat) : Prop := ∀ s1 s2, s = s1 ++ q :: s2 → p ∈ s1 ∨ L.getD p false = true
theorem before_true {p q : Nat} (L : Array Bool) (hne : p ≠ q) : ∀ {s : List Nat}, before p q s = true → Fst p q L s
  | [], _, s1, s2, h => by simp at h
  | i :: s, h, s1, s2, e => by
    unfold before at h
    cases s1 with
    | nil =>
      simp only [List.nil_append, List.cons.injEq] at e
      rw [e.1, if_neg (Ne.symm hne), if_pos rfl] at h; cases h
    | cons x s1 =>
      simp only [List.cons_append, List.cons.injEq] at e
      by_cases hi : i = p
      · left; rw [← e.1, hi]; exact List.mem_cons_self
      · by_cases hq : i = q
        · rw [if_neg hi, if_pos hq] at h; cases h
        · rw [if_neg hi, if_neg hq] at h
          exact (before_true L hne h s1 s2 e.2).imp (List.mem_cons_of_mem _) id
theorem before_false {p q : Nat} (L : Array Bool) (hne : p ≠ q) : ∀ {s : List Nat}, before p q s = false → Fst q p L s
  | [], h, s1, s2, e => by simp at e
  | i :: s, h, s1, s2, e => by
    unfold before at h
    by_cases hi : i = p
    · rw [if_pos hi] at h; cases h
    · rw [if_neg hi] at h
      cases s1 with
      | nil => simp only [List.nil_append, List.cons.injEq] at e; exact absurd e.1 hi
      | cons x s1 =>
        simp only [List.cons_append, List.cons.injEq] at e
        by_cases hq : i = q
        · left; rw [← e.1, hq]; exact List.mem_cons_self
        · rw [if_neg hq] at h
          exact (before_false L hne h s1 s2 e.2).imp (List.mem_cons_of_mem _) id
theorem Fst.cons {p q i : Nat} {L : Array Bool} {s : List Nat} (h : Fst p q L (i :: s)) (hp : p < L.size) : Fst p q (L.setIfInBounds i true) s ∧ (i = q → L.getD p false = true) := by
  refine ⟨fun s1 s2 e => ?_, fun e => by subst e; exact (h [] s rfl).resolve_left (by simp)⟩
  rcases h (i :: s1) s2 (by rw [e]; rfl) with h | h
  · rcases List.mem_cons.1 h with rfl | h
    · right; simp [hp]
    · exact .inl h
  · exact .inr (getD_set_true h)
theorem topo_go {ops : Array Oper} : ∀ (fuel t : Nat) (L : Array Bool), (List.range ops.size).countP (fun i => !L.getD i true) ≤ fuel → L.size = ops.size → Topo ops L (Region.linearise.go .any ops fuel t L [])
  | 0, t, L, hf, hs => by
    simp only [Region.linearise.go, List.reverse_nil]
    refine .nil ?_
    rw [List.eq_nil_iff_forall_not_mem]
    intro i hmem
    obtain ⟨h0, o, ho, _⟩ := mem_ready.1 hmem
    have hlt := (Array.getElem?_eq_some_iff.1 ho).1
    have : 0 < (List.range ops.size).countP (fun i => !L.getD i true) := List.countP_pos_iff.2 ⟨i, by simp [hlt], by simp only [h0]; rfl⟩
    omega
  | fuel + 1, t, L, hf, hs => by
    simp only [Region.linearise.go]
    change Topo ops L (match (Region.ready .any ops L)[t % (Region.ready .any ops L).length]? with
      | some i => Region.linearise.go .any ops fuel (t / (Region.ready .any ops L).length) (L.setIfInBounds i true) [i]
      | none => [].reverse)
    cases hi : (Region.ready .any ops L)[t % (Region.ready .any ops L).length]? with
    | none =>
      simp only [List.reverse_nil]
      refine .nil ?_
      cases hr : Region.ready .any ops L with
      | nil => rfl
      | cons x xs =>
        rw [hr] at hi
        have hlt : t % (x :: xs).length < (x :: xs).length := Nat.mod_lt _ (by simp)
        rw [List.getElem?_eq_none_iff] at hi
        omega
    | some i =>
      simp only []
      rw [linearise_go_acc, List.reverse_singleton, List.singleton_append]
      have hmem := List.mem_of_getElem? hi
      obtain ⟨h0, o, ho, _⟩ := mem_ready.1 hmem
      have hlt := (Array.getElem?_eq_some_iff.1 ho).1
      refine .cons hmem (topo_go fuel _ _ ?_ (by simp [hs]))
      have : (List.range ops.size).countP (fun j => !(L.setIfInBounds i true).getD j true) < (List.range ops.size).countP (fun j => !L.getD j true) :=
        countP_lt (x := i) (fun y hy => by
          by_cases hym : y = i
          · subst hym; simp [h0]
          · rwa [getD_set_ne true (Ne.symm hym)] at hy) (by simp [hlt]) (by simp only [h0]; rfl) (by simp [hs, hlt])
      omega
theorem topo_wp {P : Program} {ops : Array Oper} {Q : Exit → Act → World → Prop} : ∀ {s : List Nat} {L : Array Bool} {fuel : Nat} {a : Act} {w : World}, Topo ops L s → wpAny P .any ops Q fuel L a w → wpOps P ops Q s a w
  | [], L, fuel, a, w, h, hw => by
    cases h with
    | nil h =>
      cases fuel with
      | zero => exact hw.2
      | succ fuel => exact hw.1 h
  | i :: s, L, fuel, a, w, h, hw => by
    cases h with
    | cons hi h =>
      cases fuel with
      | zero => rw [hw.1] at hi; simp at hi
      | succ fuel =>
        rw [wpOps_cons]
        exact wpOp_mono (fun a w hw => topo_wp h hw) (hw.2 i hi)

/-! ### The same operations in another row, with one bond more -/
def chkP (n : Nat) (ord : List Nat) (x y : Nat) (ops : Array Oper) : Bool :=
  Nat.beq ops.size n && Nat.beq ord.length n && Nat.blt x n && Nat.blt y n && !Nat.beq x y &&
  ((List.range n).all fun i => (match ord[ord.idxOf i]? with | some j => Nat.beq j i | none => false) && (match ord[i]? with | some j => Nat.blt j n && Nat.beq (ord.idxOf j) i | none => false)) &&
  ops.toList.all fun o => (o.after.toList.all fun e => Nat.blt e.on n) && (match o.guard with | some g => Nat.blt g.1 n | none => true)
structure PermOk (n : Nat) (ord : List Nat) (x y : Nat) (ops : Array Oper) : Prop where
  size : ops.size = n
  len : ord.length = n
  xlt : x < n
  ylt : y < n
  ne : x ≠ y
  inv : ∀ i, i < n → ord[ord.idxOf i]? = some i
  back : ∀ k, k < n → ∃ i, ord[k]? = some i ∧ i < n ∧ ord.idxOf i = k
  edge : ∀ (i : Nat) (o : Oper), ops[i]? = some o → ∀ e ∈ o.after, e.on < n
  guard : ∀ (i : Nat) (o : Oper) (g : Nat × Bool), ops[i]? = some o → o.guard = some g → g.1 < n
theorem chkP_ok {n : Nat} {ord : List Nat} {x y : Nat} {ops : Array Oper} (h : chkP n ord x y ops = true) : PermOk n ord x y ops := by
  simp only [chkP, Bool.and_eq_true, List.all_eq_true, List.mem_range] at h
  obtain ⟨⟨⟨⟨⟨⟨h1, h2⟩, h3⟩, h4⟩, h5⟩, h6⟩, h7⟩ := h
  have mem : ∀ {i : Nat} {o : Oper}, ops[i]? = some o → o ∈ ops.toList := fun h => by
    obtain ⟨hi, rfl⟩ := Array.getElem?_eq_some_iff.1 h
    simp
  refine ⟨Nat.eq_of_beq_eq_true h1, Nat.eq_of_beq_eq_true h2, Nat.le_of_ble_eq_true h3, Nat.le_of_ble_eq_true h4, fun e => by subst e; simp at h5, fun i hi => ?_, fun k hk => ?_, fun i o ho e he => ?_, fun i o g ho hg => ?_⟩
  · have := (h6 i hi).1
    split at this
    · rename_i j hj; rw [hj, Nat.eq_of_beq_eq_true this]
    · cases this
  · have := (h6 k hk).2
    split at this
    · rename_i j hj
      simp only [Bool.and_eq_true] at this
      exact ⟨j, hj, Nat.le_of_ble_eq_true this.1, Nat.eq_of_beq_eq_true this.2⟩
    · cases this
  · exact Nat.le_of_ble_eq_true ((h7 o (mem ho)).1 e (by simpa using he))
  · have := (h7 o (mem ho)).2
    rw [hg] at this
    exact Nat.le_of_ble_eq_true this
section
variable {n : Nat} {ord : List Nat} {x y : Nat} {ops : Array Oper} (hP : PermOk n ord x y ops)
include hP
theorem PermOk.has {i : Nat} (hi : i < n) : ∃ o, ops[i]? = some o := ⟨ops[i]'(by rw [hP.size]; exact hi), by simp [hP.size, hi]⟩
theorem PermOk.lt {i : Nat} (hi : i < n) : ord.idxOf i < n := by
  have := (List.getElem?_eq_some_iff.1 (hP.inv i hi)).1
  rw [hP.len] at this; exact this
theorem PermOk.inj {i j : Nat} (hi : i < n) (hj : j < n) (h : ord.idxOf i = ord.idxOf j) : i = j := by
  have h1 := hP.inv i hi
  rw [h, hP.inv j hj] at h1
  injection h1 with h1; exact h1.symm
theorem PermOk.get {i : Nat} {o : Oper} (ho : ops[i]? = some o) : (opsP ord x y ops)[ord.idxOf i]? = some (renO ord x y i o) := by
  have hi : i < n := by rw [← hP.size]; exact (Array.getElem?_eq_some_iff.1 ho).1
  simp [opsP, hP.inv i hi, Array.getD_eq_getD_getElem?, ho]
theorem PermOk.get' {k : Nat} {o' : Oper} (ho : (opsP ord x y ops)[k]? = some o') : ∃ i o, k = ord.idxOf i ∧ i < n ∧ ops[i]? = some o ∧ o' = renO ord x y i o := by
  have hk : k < n := by
    have := (Array.getElem?_eq_some_iff.1 ho).1
    simpa [opsP, hP.len] using this
  obtain ⟨i, h1, h2, h3⟩ := hP.back k hk
  obtain ⟨o, ho'⟩ := hP.has h2
  refine ⟨i, o, h3.symm, h2, ho', ?_⟩
  have := hP.get ho'
  rw [h3, ho] at this
  injection this
/-- The listed ones of both. -/
def RelL (n : Nat) (ord : List Nat) (L L' : Array Bool) : Prop := L.size = n ∧ L'.size = n ∧ ∀ i, i < n → L'.getD (ord.idxOf i) false = L.getD i false
omit hP in
theorem getD_in {L : Array Bool} {i : Nat} (h : i < L.size) : L.getD i true = L.getD i false := by simp [h]
theorem topo_ren : ∀ {s : List Nat} {L L' : Array Bool}, Topo ops L s → RelL n ord L L' → Fst x y L s → Topo (opsP ord x y ops) L' (s.map ord.idxOf)
  | [], L, L', h, hr, hf => by
    cases h with
    | nil h =>
      refine .nil ?_
      rw [List.eq_nil_iff_forall_not_mem]
      intro k hk
      obtain ⟨h0, o', ho', hpre⟩ := mem_ready.1 hk
      obtain ⟨i, o, rfl, hi, ho, rfl⟩ := hP.get' ho'
      have : i ∈ Region.ready .any ops L := mem_ready.2 ⟨by rw [getD_in (by rw [hr.1]; exact hi), ← hr.2.2 i hi, ← getD_in (by rw [hr.2.1]; exact hP.lt hi)]; exact h0, o, ho, fun e he hb => by
        have h1 := hpre (renE ord e) (by
          have : renE ord e ∈ o.after.map (renE ord) := Array.mem_map.2 ⟨e, he, rfl⟩
          unfold renO
          simp only
          cases Nat.beq i y
          · exact this
          · exact Array.mem_push.2 (.inl this)) hb
        have := hr.2.2 e.on (hP.edge i o ho e he)
        rw [← this]; exact h1⟩
      rw [h] at this; simp at this
  | i :: s, L, L', h, hr, hf => by
    cases h with
    | cons hi h =>
      obtain ⟨h0, o, ho, hpre⟩ := mem_ready.1 hi
      have hlt : i < n := by rw [← hP.size]; exact (Array.getElem?_eq_some_iff.1 ho).1
      obtain ⟨hf1, hf2⟩ := hf.cons (by rw [hr.1]; exact hP.xlt)
      refine .cons (mem_ready.2 ⟨?_, _, hP.get ho, fun e he hb => ?_⟩) (topo_ren h ⟨by simp [hr.1], by simp [hr.2.1], fun j hj => ?_⟩ hf1)
      · rw [getD_in (by rw [hr.2.1]; exact hP.lt hlt), hr.2.2 i hlt, ← getD_in (by rw [hr.1]; exact hlt)]; exact h0
      · have old : ∀ e ∈ o.after.map (renE ord), Region.binds .any e = true → L'.getD e.on false = true := fun e he hb => by
          obtain ⟨e0, he0, rfl⟩ := Array.mem_map.1 he
          have h1 := hpre e0 he0 hb
          have h2 := hr.2.2 e0.on (hP.edge i o ho e0 he0)
          rw [h1] at h2; exact h2
        unfold renO at he
        simp only at he
        cases hy : Nat.beq i y with
        | false => rw [hy] at he; exact old e he hb
        | true =>
          rw [hy] at he
          rcases Array.mem_push.1 he with he | rfl
          · exact old e he hb
          · have := hf2 (Nat.eq_of_beq_eq_true hy)
            show L'.getD (ord.idxOf x) false = true
            rw [hr.2.2 x hP.xlt]; exact this
      · by_cases hj' : j = i
        · subst hj'
          have hl := hP.lt hlt
          simp [hr.1, hr.2.1, hlt, hl]
        · rw [getD_set_ne false (Ne.symm hj'), getD_set_ne false fun e => hj' (hP.inj hlt hj e).symm]
          exact hr.2.2 j hj
theorem wanted_ren {i : Nat} {o : Oper} (ho : ops[i]? = some o) (a : Act) : Region.wanted (renO ord x y i o) (yielded (opsP ord x y ops) a.tmps) = Region.wanted o (yielded ops a.tmps) := by
  unfold Region.wanted renO
  simp only
  cases hg : o.guard with
  | none => rfl
  | some g =>
    have hgl := hP.guard i o g ho hg
    have : yielded (opsP ord x y ops) a.tmps (ord.idxOf g.1) = yielded ops a.tmps g.1 := by
      obtain ⟨og, ho'⟩ := hP.has hgl
      unfold yielded
      rw [hP.get ho', ho']; rfl
    simp only [Option.map_some, this]
theorem wpOps_ren {P : Program} {Q : Exit → Act → World → Prop} : ∀ {s : List Nat} {a : Act} {w : World}, (∀ i ∈ s, i < n) → wpOps P (opsP ord x y ops) Q (s.map ord.idxOf) a w → wpOps P ops Q s a w
  | [], a, w, _, h => h
  | i :: s, a, w, hs, h => by
    have hi : i < n := hs i List.mem_cons_self
    obtain ⟨o, ho⟩ := hP.has hi
    rw [List.map_cons, wpOps_cons] at h
    rw [wpOps_cons]
    have h := wpOp_mono (K' := wpOps P ops Q s) (fun a w h => wpOps_ren (fun j hj => hs j (List.mem_cons_of_mem _ hj)) h) h
    unfold wpOp at h ⊢
    rw [hP.get ho] at h
    rw [ho]
    simp only [wanted_ren hP ho] at h
    exact h
omit hP in
theorem Topo.lt {s : List Nat} {L : Array Bool} (h : Topo ops L s) (hs : ops.size = n) : ∀ i ∈ s, i < n := by
  induction h with
  | nil _ => simp
  | cons hi _ ih =>
    intro j hj
    rcases List.mem_cons.1 hj with rfl | hj
    · obtain ⟨_, o, ho, _⟩ := mem_ready.1 hi
      rw [← hs]; exact (Array.getElem?_eq_some_iff.1 ho).1
    · exact ih j hj
end
section
variable {P : Program} {T : TT} {O : Orc} {N : Nat} {f : FuncId} {all : Array Oper}
noncomputable def chkX (T : TT) (N : Nat) (p q : Nat) (o1 b1 o2 b2 : List Nat) (all : Array Oper) : Bool :=
  chkP all.size o1 p q all && chkP all.size o2 q p all && chkR T b1 (opsP o1 p q all) && chkR T b2 (opsP o2 q p all) && okDst N (opsP o1 p q all).toList && okDst N (opsP o2 q p all).toList
theorem regP_ops (hT : TOk P T) (hO : OOk P O) (hmix : P.follows .mixedOrders = true) {e : Env} {a : Act} {w : World} {k : K} {r : Res} {x y : Nat} {ord bits : List Nat} (hP : PermOk all.size ord x y all) (hchk : chkR T bits (opsP ord x y all) = true)
    (hd : okDst N (opsP ord x y all).toList = true) (he : EnvOk N e a) (h : regD P T O bits (opsP ord x y all) (opsP ord x y all).toList 0 e w.drew [] [] k = some r) {Q : Exit → Act → World → Prop}
    (hQ : ∀ e' a' w', EnvOk N e' a' → k e' w' = some r → Q .normal a' w') {s : List Nat} (hs : Topo all (Array.replicate all.size false) s) (hf : Fst x y (Array.replicate all.size false) s) : wpOps P all Q s a w.drew := by
  obtain ⟨ss, h1, e', a', w', h2, h3, h4, h5⟩ := regD_inv hT hO (opsP ord x y all).toList 0 e a w.drew [] [] [] hd he .nil h
  have hsz : (opsP ord x y all).size = all.size := by simp [opsP, hP.len]
  have hw : wpAny P .any (opsP ord x y all) Q (opsP ord x y all).size (Array.replicate (opsP ord x y all).size false) a w.drew := by
    refine any_inv (chkR_ok hchk) h1 h4 h5 (hQ e' a' w' h2 h3) _ _ _ _ ?_ ⟨by simp, fun i hl => ?_, ?_, ?_⟩
    · have := List.countP_le_length (p := fun i => !(Array.replicate (opsP ord x y all).size false).getD i true) (l := List.range (opsP ord x y all).size); simpa using this
    · exfalso; revert hl; simp [Array.getElem?_replicate]; split <;> simp
    · rw [actS_none]; intro k _; simp [Array.getElem?_replicate]; split <;> simp
    · rw [wS_start h4]
      intro j s _ _; simp [Array.getElem?_replicate]; split <;> simp
  refine wpOps_ren hP (hs.lt rfl) (topo_wp (topo_ren hP hs ⟨by simp, by simp [hsz], fun i hi => ?_⟩ hf) hw)
  have := hP.lt hi
  simp [hsz, hi, this]
theorem regX_wf (hT : TOk P T) (hO : OOk P O) (hmix : P.follows .mixedOrders = true) {id : Nat} {e : Env} {a : Act} {w : World} {k : K} {r : Res} {p q : Nat} {o1 b1 o2 b2 : List Nat} (hchk : chkX T N p q o1 b1 o2 b2 all = true) (he : EnvOk N e a)
    (h : regX P T O (ordB P f id all p q w) p q o1 b1 o2 b2 all e w k = some r) {Q : Exit → Act → World → Prop} (hQ : ∀ e' a' w', EnvOk N e' a' → k e' w' = some r → Q .normal a' w') : Wf P f (Code.region id all true) Q a w := by
  simp only [chkX, Bool.and_eq_true] at hchk
  obtain ⟨⟨⟨⟨⟨h1, h2⟩, h3⟩, h4⟩, h5⟩, h6⟩ := hchk
  have hs : Topo all (Array.replicate all.size false) (Region.schedule (P.follows .mixedOrders) all (w.tape w.drawn (.order f id))) := by
    simp only [Region.schedule, hmix, Bool.true_or, if_true]
    refine topo_go all.size _ _ ?_ (by simp)
    have := List.countP_le_length (p := fun i => !(Array.replicate all.size false).getD i true) (l := List.range all.size); simpa using this
  have key : wpOps P all Q (Region.schedule (P.follows .mixedOrders) all (w.tape w.drawn (.order f id))) a w.drew := by
    unfold regX at h
    cases hb : ordB P f id all p q w with
    | true =>
      rw [hb, cond_true] at h
      exact regP_ops hT hO hmix (chkP_ok h1) h3 h5 he h hQ hs (before_true _ (chkP_ok h1).ne (by rw [← ordB_eq]; exact hb))
    | false =>
      rw [hb, cond_false] at h
      exact regP_ops hT hO hmix (chkP_ok h2) h4 h6 he h hQ hs (before_false _ (chkP_ok h1).ne (by rw [← ordB_eq]; exact hb))
  intro b k cs hb
  subst hb
  obtain ⟨e, a', w', q, r⟩ := wp_ops _ a _ key b k cs
  exact ⟨e, a', w', q, .of_steps (.one step_region_draw) r⟩
/-! ### Several pairs -/
noncomputable def chkT (T : TT) (N : Nat) (t : RX) : Array Oper → Bool :=
  RX.rec (motive := fun _ => Array Oper → Bool) (fun bits ops => chkR T bits ops && okDst N ops.toList)
    (fun p q o1 _ o2 _ A B ops => chkP ops.size o1 p q ops && chkP ops.size o2 q p ops && A (opsP o1 p q ops) && B (opsP o2 q p ops)) t
theorem regT_ops (hT : TOk P T) (hO : OOk P O) {e : Env} {a : Act} {w : World} {k : K} {r : Res} {ob : List (List Nat) → Nat → Nat → Bool} {s0 : List Nat} (hob : ∀ path p q, ob path p q = before p q (renL path s0)) {Q : Exit → Act → World → Prop}
    (hQ : ∀ e' a' w', EnvOk N e' a' → k e' w' = some r → Q .normal a' w') (he : EnvOk N e a) : ∀ (t : RX) (path : List (List Nat)) (ops : Array Oper), chkT T N t ops = true → regT P T O ob e w k t path ops = some r →
    Topo ops (Array.replicate ops.size false) (renL path s0) → wpOps P ops Q (renL path s0) a w.drew
  | .d bits, path, ops, hc, h, hs => by
    have hc : (chkR T bits ops && okDst N ops.toList) = true := hc
    rw [Bool.and_eq_true] at hc
    have h : regD P T O bits ops ops.toList 0 e w.drew [] [] k = some r := h
    obtain ⟨ss, h1, e', a', w', h2, h3, h4, h5⟩ := regD_inv hT hO ops.toList 0 e a w.drew [] [] [] hc.2 he .nil h
    have hw : wpAny P .any ops Q ops.size (Array.replicate ops.size false) a w.drew := by
      refine any_inv (chkR_ok hc.1) h1 h4 h5 (hQ e' a' w' h2 h3) _ _ _ _ ?_ ⟨by simp, fun i hl => ?_, ?_, ?_⟩
      · have := List.countP_le_length (p := fun i => !(Array.replicate ops.size false).getD i true) (l := List.range ops.size); simpa using this
      · exfalso; revert hl; simp [Array.getElem?_replicate]; split <;> simp
      · rw [actS_none]; intro k _; simp [Array.getElem?_replicate]; split <;> simp
      · rw [wS_start h4]
        intro j s _ _; simp [Array.getElem?_replicate]; split <;> simp
    exact topo_wp hs hw
  | .x p q o1 t1 o2 t2, path, ops, hc, h, hs => by
    have hc : (chkP ops.size o1 p q ops && chkP ops.size o2 q p ops && chkT T N t1 (opsP o1 p q ops) && chkT T N t2 (opsP o2 q p ops)) = true := hc
    simp only [Bool.and_eq_true] at hc
    obtain ⟨⟨⟨h1, h2⟩, h3⟩, h4⟩ := hc
    have h : cond (ob path p q) (regT P T O ob e w k t1 (o1 :: path) (opsP o1 p q ops)) (regT P T O ob e w k t2 (o2 :: path) (opsP o2 q p ops)) = some r := h
    have go : ∀ (x y : Nat) (ord : List Nat) (t : RX), PermOk ops.size ord x y ops → Fst x y (Array.replicate ops.size false) (renL path s0) → (Topo (opsP ord x y ops) (Array.replicate (opsP ord x y ops).size false) (renL (ord :: path) s0) → wpOps P (opsP ord x y ops) Q (renL (ord :: path) s0) a w.drew) → wpOps P ops Q (renL path s0) a w.drew := by
      intro x y ord t hP hf hw
      have hsz : (opsP ord x y ops).size = ops.size := by simp [opsP, hP.len]
      refine wpOps_ren hP (hs.lt rfl) (hw ?_)
      show Topo (opsP ord x y ops) _ ((renL path s0).map ord.idxOf)
      refine topo_ren hP hs ⟨by simp, by simp [hsz], fun i hi => ?_⟩ hf
      have := hP.lt hi
      simp [hsz, hi, this]
    cases hb : ob path p q with
    | true =>
      rw [hb, cond_true] at h
      exact go p q o1 t1 (chkP_ok h1) (before_true _ (chkP_ok h1).ne (by rw [← hob]; exact hb)) (regT_ops hT hO hob hQ he t1 (o1 :: path) _ h3 h)
    | false =>
      rw [hb, cond_false] at h
      exact go q p o2 t2 (chkP_ok h2) (before_false _ (chkP_ok h1).ne (by rw [← hob]; exact hb)) (regT_ops hT hO hob hQ he t2 (o2 :: path) _ h4 h)
theorem regT_wf (hT : TOk P T) (hO : OOk P O) (hmix : P.follows .mixedOrders = true) {id : Nat} {e : Env} {a : Act} {w : World} {k : K} {r : Res} {t : RX} (hchk : chkT T N t all = true) (he : EnvOk N e a)
    (h : regT P T O (fun path p q => ordT P f id all path p q w) e w k t [] all = some r) {Q : Exit → Act → World → Prop} (hQ : ∀ e' a' w', EnvOk N e' a' → k e' w' = some r → Q .normal a' w') : Wf P f (Code.region id all true) Q a w := by
  have hs : Topo all (Array.replicate all.size false) (Region.schedule (P.follows .mixedOrders) all (w.tape w.drawn (.order f id))) := by
    simp only [Region.schedule, hmix, Bool.true_or, if_true]
    refine topo_go all.size _ _ ?_ (by simp)
    have := List.countP_le_length (p := fun i => !(Array.replicate all.size false).getD i true) (l := List.range all.size); simpa using this
  have key : wpOps P all Q (Region.schedule (P.follows .mixedOrders) all (w.tape w.drawn (.order f id))) a w.drew :=
    regT_ops hT hO (s0 := Region.schedule (P.follows .mixedOrders) all (w.tape w.drawn (.order f id))) (fun path p q => ordT_eq P f id all path p q w) hQ he t [] all hchk h hs
  intro b k cs hb
  subst hb
  obtain ⟨e, a', w', q, r⟩ := wp_ops _ a _ key b k cs
  exact ⟨e, a', w', q, .of_steps (.one step_region_draw) r⟩
end
end Go.Proofs.Ytdcdgmiojlldaaa.Big
