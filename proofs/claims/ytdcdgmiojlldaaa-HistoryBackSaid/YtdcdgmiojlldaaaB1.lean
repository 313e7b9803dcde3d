/- The big-step reading of a piece of code: regions, ways that meet again, loops, jumps. -/
import Derived.Test.YtdcdgmiojlldaaaB0
namespace Go.Proofs.Ytdcdgmiojlldaaa.Big
open Go

/-- Several effects in no order: pair by pair. -/
inductive RX where
  | d (bits : List Nat)
  | x (p q : Nat) (o1 : List Nat) (t1 : RX) (o2 : List Nat) (t2 : RX)
inductive Ann where
  | leaf
  | node (l r : Ann)
  | jn (out : List (Nat × Kd)) (a : Ann)
  | lp (inn : List Nat) (a : Ann)
  | nb (a : Ann)
  | rg (bits : List Nat)
  | rx (p q : Nat) (o1 b1 o2 b2 : List Nat)
  | rt (t : RX)
  | sc (a : Ann) (ls : List (Nat × List Nat × Ann))
abbrev Ctx := List (Nat × List Nat)
abbrev K := Env → World → Option Res
abbrev Kg := Nat → Env → World → Option Res

section
variable {α : Type}
noncomputable def rst (ts : List Nat) (e : Env) : (List Value → Option α) → Option α :=
  List.rec (motive := fun _ => (List Value → Option α) → Option α) (fun f => f []) (fun t _ ih f => optL (look t e) fun v => ih fun vs => f (v :: vs)) ts
noncomputable def unp (out : List (Nat × Kd)) : List Value → (Env → Option α) → Option α :=
  List.rec (motive := fun _ => List Value → (Env → Option α) → Option α) (fun vs f => tN vs (f [])) (fun p _ ih vs f => tC vs fun v vs => ty p.2 v fun v' => ih vs fun e => f ((p.1, v') :: e)) out
def brk (b : Bool) (f : Bool → Option α) : Option α := cond b (f true) (f false)
open Classical in
noncomputable def ck (x : Option Value) (v : Value) (r : Option α) : Option α := if x = some v then r else none
theorem ck_self (v : Value) (r : Option α) : ck (some v) v r = r := by simp [ck]
end
inductive RV where
  | tmp (t : Nat) | cell (t : Nat) (k : Kd)
/-- A function's results. -/
noncomputable def retL (rs : List RV) (e : Env) (w : World) : (List Value → Option Res) → Option Res :=
  List.rec (motive := fun _ => (List Value → Option Res) → Option Res) (fun f => f [])
    (fun r _ ih f => match r with
      | .tmp t => optL (look t e) fun v => ih fun vs => f (v :: vs)
      | .cell t k => optL (look t e) fun v => tPL v fun p => optL p fun a => ldK k w a fun v => ih fun vs => f (v :: vs)) rs
noncomputable def retK (rs : List RV) : Env → World → Option Res := fun e w => retL rs e w fun vs => some ⟨.ret, vs, w⟩
/-- Where ways meet again; where a block ends. -/
noncomputable def jm (x : Option Res) (k : List Value → World → Option Res) : Option Res := opt x fun r => match r.ex with | .norm => k r.vals r.w | _ => some r
noncomputable def jb (id : Nat) (x : Option Res) (k : List Value → World → Option Res) : Option Res :=
  opt x fun r => match r.ex with | .norm => k r.vals r.w | .exit i => cond (Nat.beq i id) (k r.vals r.w) (some r) | .ret => some r
theorem jm_norm (vs : List Value) (w : World) (k : List Value → World → Option Res) : jm (some ⟨.norm, vs, w⟩) k = k vs w := rfl
theorem jm_ret (vs : List Value) (w : World) (k : List Value → World → Option Res) : jm (some ⟨.ret, vs, w⟩) k = some ⟨.ret, vs, w⟩ := rfl
theorem jm_exit (i : Nat) (vs : List Value) (w : World) (k : List Value → World → Option Res) : jm (some ⟨.exit i, vs, w⟩) k = some ⟨.exit i, vs, w⟩ := rfl
theorem jb_norm (id : Nat) (vs : List Value) (w : World) (k : List Value → World → Option Res) : jb id (some ⟨.norm, vs, w⟩) k = k vs w := rfl
theorem jb_ret (id : Nat) (vs : List Value) (w : World) (k : List Value → World → Option Res) : jb id (some ⟨.ret, vs, w⟩) k = some ⟨.ret, vs, w⟩ := rfl
theorem jb_exit (id : Nat) (vs : List Value) (w : World) (k : List Value → World → Option Res) : jb id (some ⟨.exit id, vs, w⟩) k = k vs w := by
  show cond (Nat.beq id id) _ _ = _
  rw [Nat.beq_refl]; rfl
theorem jb_other (id i : Nat) (h : i ≠ id) (vs : List Value) (w : World) (k : List Value → World → Option Res) : jb id (some ⟨.exit i, vs, w⟩) k = some ⟨.exit i, vs, w⟩ := by
  show cond (Nat.beq i id) _ _ = _
  rw [Bool.eq_false_iff.2 fun h' => h (Nat.eq_of_beq_eq_true h')]; rfl
noncomputable def join (out : List (Nat × Kd)) (x : Option Res) (k : K) : Option Res := jm x fun vs w => unp out vs fun e => k e w
noncomputable def outK (out : List (Nat × Kd)) : K := fun e w => rst (out.map Prod.fst) e fun vs => some ⟨.norm, vs, w⟩
def putE (d : Option Tmp) (v : Value) (e : Env) : Env := match d with | some d => (d, v) :: e | none => e
def dstOf (all : Array Oper) (j : Nat) : Option Tmp := (all[j]?).bind (·.dst)

section
variable (P : Program) (T : TT) (O : Orc)
/-- What an operation's guard says. -/
noncomputable def guarded {α : Type} (all : Array Oper) (o : Oper) (e : Env) (f : Bool → Env → Option α) : Option α :=
  match o.guard with
  | none => f true e
  | some (j, want) => optL (dstOf all j) fun d => optL (look d e) fun v => match v with
    | .bool b => brk b fun b' => f (b' == want) ((d, .bool b') :: e)
    | .tuple _ => f false e
    | _ => none
noncomputable def regE (all : Array Oper) (ops : List Oper) : Env → World → K → Option Res :=
  List.rec (motive := fun _ => Env → World → K → Option Res) (fun e w k => k e w)
    (fun o _ ih e w k => guarded all o e fun b e => cond b (opE P T O o e w fun v w' => ih (putE o.dst v e) w' k) (ih (putE o.dst undef e) w k)) ops

/-- The reading of an operation alone, at another world. -/
noncomputable def again (o : Oper) (e : Env) (w : World) : Option Value := opE P T O o e w fun v _ => some v
def unord (bits : List Nat) (i j : Nat) : Bool := !((bits.getD j 0).testBit i)
structure Pend where
  at_ : Nat
  o : Oper
  e : Env
  v : Value
/-- What was read must be read so, too, ahead of what may come later; and behind what may come earlier. -/
noncomputable def ckBack {α : Type} (bits : List Nat) (i : Nat) (o : Oper) (e : Env) (v : Value) (hist : List (Nat × World)) (r : Option α) : Option α :=
  List.rec (motive := fun _ => Option α) r (fun p _ ih => cond (unord bits p.1 i) (ck (again P T O o e p.2) v ih) ih) hist
noncomputable def ckFore {α : Type} (bits : List Nat) (i : Nat) (w : World) (pend : List Pend) (r : Option α) : Option α :=
  List.rec (motive := fun _ => Option α) r (fun p _ ih => cond (unord bits p.at_ i) (ck (again P T O p.o p.e w) p.v ih) ih) pend
noncomputable def regD (bits : List Nat) (all : Array Oper) (ops : List Oper) : Nat → Env → World → List (Nat × World) → List Pend → K → Option Res :=
  List.rec (motive := fun _ => Nat → Env → World → List (Nat × World) → List Pend → K → Option Res) (fun _ e w _ _ k => k e w)
    (fun o _ ih i e w hist pend k => guarded all o e fun b e => cond b
      (opE P T O o e w fun v w' =>
        match cls T o with
        | .v => ih (i + 1) (putE o.dst v e) w hist pend k
        | .r => ckBack P T O bits i o e v hist (ih (i + 1) (putE o.dst v e) w hist (⟨i, o, e, v⟩ :: pend) k)
        | .e => ckFore P T O bits i w' pend (ih (i + 1) (putE o.dst v e) w' ((i, w) :: hist) pend k))
      (ih (i + 1) (putE o.dst undef e) w hist pend k)) ops

/-! #### Two effects in no order -/
end
def before (p q : Nat) : List Nat → Bool
  | [] => true
  | i :: s => if i = p then true else if i = q then false else before p q s
/-- Which of two comes first: the world says it (a word that nothing lays open). -/
noncomputable def ordB (P : Program) (f : FuncId) (id : Nat) (ops : Array Oper) (p q : Nat) (w : World) : Bool :=
  Classical.choose (⟨before p q (Region.schedule (P.follows .mixedOrders) ops (w.tape w.drawn (.order f id))), rfl⟩ : ∃ b, b = before p q (Region.schedule (P.follows .mixedOrders) ops (w.tape w.drawn (.order f id))))
theorem ordB_eq (P : Program) (f : FuncId) (id : Nat) (ops : Array Oper) (p q : Nat) (w : World) : ordB P f id ops p q w = before p q (Region.schedule (P.follows .mixedOrders) ops (w.tape w.drawn (.order f id))) :=
  Classical.choose_spec (⟨before p q (Region.schedule (P.follows .mixedOrders) ops (w.tape w.drawn (.order f id))), rfl⟩ : ∃ b, b = before p q (Region.schedule (P.follows .mixedOrders) ops (w.tape w.drawn (.order f id))))
def regOps : Code → Array Oper
  | .region _ ops _ => ops
  | _ => #[]
def renE (ord : List Nat) (e : Edge) : Edge := { e with on := ord.idxOf e.on }
def renO (ord : List Nat) (x y i : Nat) (o : Oper) : Oper :=
  { o with after := cond (Nat.beq i y) ((o.after.map (renE ord)).push ⟨ord.idxOf x, .data⟩) (o.after.map (renE ord)), guard := o.guard.map fun g => (ord.idxOf g.1, g.2) }
def opsP (ord : List Nat) (x y : Nat) (ops : Array Oper) : Array Oper := (ord.map fun i => renO ord x y i (ops.getD i default)).toArray
noncomputable def regX (P : Program) (T : TT) (O : Orc) (b : Bool) (p q : Nat) (o1 b1 o2 b2 : List Nat) (all : Array Oper) (e : Env) (w : World) (k : K) : Option Res :=
  cond b (regD P T O b1 (opsP o1 p q all) (opsP o1 p q all).toList 0 e w.drew [] [] k) (regD P T O b2 (opsP o2 q p all) (opsP o2 q p all).toList 0 e w.drew [] [] k)
/-- The order that comes up, in the places of a row that was laid anew (the last first). -/
def renL (path : List (List Nat)) (s : List Nat) : List Nat := path.foldr (fun ord s => s.map ord.idxOf) s
noncomputable def ordT (P : Program) (f : FuncId) (id : Nat) (ops : Array Oper) (path : List (List Nat)) (p q : Nat) (w : World) : Bool :=
  Classical.choose (⟨before p q (renL path (Region.schedule (P.follows .mixedOrders) ops (w.tape w.drawn (.order f id)))), rfl⟩ : ∃ b, b = before p q (renL path (Region.schedule (P.follows .mixedOrders) ops (w.tape w.drawn (.order f id)))))
theorem ordT_eq (P : Program) (f : FuncId) (id : Nat) (ops : Array Oper) (path : List (List Nat)) (p q : Nat) (w : World) : ordT P f id ops path p q w = before p q (renL path (Region.schedule (P.follows .mixedOrders) ops (w.tape w.drawn (.order f id)))) :=
  Classical.choose_spec (⟨before p q (renL path (Region.schedule (P.follows .mixedOrders) ops (w.tape w.drawn (.order f id)))), rfl⟩ : ∃ b, b = before p q (renL path (Region.schedule (P.follows .mixedOrders) ops (w.tape w.drawn (.order f id)))))
noncomputable def regT (P : Program) (T : TT) (O : Orc) (ob : List (List Nat) → Nat → Nat → Bool) (e : Env) (w : World) (k : K) (t : RX) : List (List Nat) → Array Oper → Option Res :=
  RX.rec (motive := fun _ => List (List Nat) → Array Oper → Option Res) (fun bits _ ops => regD P T O bits ops ops.toList 0 e w.drew [] [] k)
    (fun p q o1 _ o2 _ A B path ops => cond (ob path p q) (A (o1 :: path) (opsP o1 p q ops)) (B (o2 :: path) (opsP o2 q p ops))) t
section
variable (P : Program) (T : TT) (O : Orc)
/-- The rounds of a loop. -/
noncomputable def iter (f : Env → World → K → Option Res) (inn : List Nat) (m : Nat) : Env → World → Option Res :=
  Nat.rec (motive := fun _ => Env → World → Option Res) (fun _ _ => none) (fun _ ih e w => f e w fun e' w' => rst inn e' fun vs => ih (inn.zip vs) w') m

variable (f : FuncId) (n : Nat) (rs : List RV)
abbrev Cd := Ann → Ctx → Kg → Env → World → K → Option Res
noncomputable def meets (g : Cd) : Cd := fun an ctx kg e w k => match an with | .jn out a => join out (g a ctx (fun _ _ _ => none) e w (outK out)) k | a => g a ctx kg e w k
noncomputable def ev (scope : Code → Ann → Ctx → Env → World → K → Option Res) (c : Code) : Cd :=
  Code.rec (motive := fun _ => Cd)
    /- skip -/ (fun _ _ _ e w k => k e w)
    /- region -/ (fun id ops draw => meets fun an _ _ e w k => cond draw (match an with | .rg bits => regD P T O bits ops ops.toList 0 e w.drew [] [] k | .rx p q o1 b1 o2 b2 => regX P T O (ordB P f id ops p q w) p q o1 b1 o2 b2 ops e w k | .rt t => regT P T O (fun path p q => ordT P f id ops path p q w) e w k t [] ops | _ => none) (regE P T O ops ops.toList e w k))
    /- seq -/ (fun _ _ A B => meets fun an ctx kg e w k => match an with | .node l r => A l ctx kg e w fun e w => B r ctx kg e w k | _ => none)
    /- cond -/ (fun c _ _ A B => meets fun an ctx kg e w k => vl c e fun v => tBL v fun b => match an with | .node l r => cond b (A l ctx kg e w k) (B r ctx kg e w k) | _ => none)
    /- block -/ (fun id _ A an ctx kg e w k => match an with
        | .jn out a => jb id (A a ((id, out.map Prod.fst) :: ctx) (fun _ _ _ => none) e w (outK out)) fun vs w => unp out vs fun e => k e w
        | .nb a => match look id ctx with | none => A a ctx kg e w k | some _ => none
        | _ => none)
    /- loop -/ (fun _ A an ctx _ e w _ => match an with
        | .lp inn a => rst inn e fun vs => iter (fun e w k => A a ctx (fun _ _ _ => none) e w k) inn n (inn.zip vs) w
        | _ => none)
    /- rangeFunc -/ (fun _ _ _ _ _ _ _ _ _ _ _ _ => none)
    /- exit -/ (fun id _ ctx _ e w _ => optL (look id ctx) fun slots => rst slots e fun vs => some ⟨.exit id, vs, w⟩)
    /- scope -/ (fun c _ => meets fun an ctx _ e w k => scope c an ctx e w k)
    /- label -/ (fun _ _ _ _ e w k => k e w)
    /- goto -/ (fun l _ _ kg e w _ => kg l e w)
    /- ret -/ (fun _ _ _ e w _ => retK rs e w)
    /- refuse -/ (fun _ _ _ _ _ _ _ => none) c

noncomputable def ev1 : Code → Cd := ev P T O f n rs fun _ _ _ _ _ _ => none
/-- The rounds of a label. -/
noncomputable def jumps (body : Code) (ls : List (Nat × List Nat × Ann)) (ctx : Ctx) (k : K) (m : Nat) : Nat → Env → World → Option Res :=
  Nat.rec (motive := fun _ => Nat → Env → World → Option Res) (fun _ _ _ => none)
    (fun _ ih l e w => optL (look l ls) fun p => optL (findLabel body l) fun c => ev1 P T O f n rs c p.2 ctx (fun l' e' w' => optL (look l' ls) fun q => rst q.1 e' fun vs => ih l' (q.1.zip vs) w') e w k) m
noncomputable def inScope (c : Code) (an : Ann) (ctx : Ctx) (e : Env) (w : World) (k : K) : Option Res :=
  match an with
  | .sc a ls => ev1 P T O f n rs c a ctx (fun l' e' w' => optL (look l' ls) fun q => rst q.1 e' fun vs => jumps P T O f n rs c ls ctx k n l' (q.1.zip vs) w') e w k
  | _ => none
noncomputable def ev2 : Code → Cd := ev P T O f n rs (inScope P T O f n rs)

/-- The whole of a function. -/
noncomputable def fin (x : Option Res) : Option (List Value × World) := opt x fun r => match r.ex with | .ret => some (r.vals, r.w) | _ => none
noncomputable def evF (ar : Nat) (c : Code) (an : Ann) (vs : List Value) (w : World) : Option (List Value × World) :=
  cond (Nat.beq vs.length ar) (fin (ev2 P T O f n rs c an [] (fun _ _ _ => none) ((List.range vs.length).zip vs) w (retK rs))) none
end
/-- A piece of a piece of code. -/
def dig : List Nat → Code → Code
  | [], c => c
  | 0 :: p, .seq a _ => dig p a
  | 1 :: p, .seq _ b => dig p b
  | 0 :: p, .cond _ a _ => dig p a
  | 1 :: p, .cond _ _ b => dig p b
  | 0 :: p, .block _ a => dig p a
  | 0 :: p, .loop a => dig p a
  | 0 :: p, .scope a => dig p a
  | _, c => c
end Go.Proofs.Ytdcdgmiojlldaaa.Big
