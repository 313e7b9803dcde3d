/- The big-step reading of the machine's code: a function that computes what a piece of code does, with no condition; and what it is built of. -/
import Derived.Orders
import Derived.Scope
import Derived.Laws.Entries
import Derived.Laws.World
import Derived.Deep.Draws
namespace Go.Proofs.Ytdcdgmiojlldaaa.Big
open Go

abbrev Env := List (Nat × Value)

/-- What a slot holds. -/
noncomputable def look {β : Type} (t : Nat) (e : List (Nat × β)) : Option β :=
  List.rec (motive := fun _ => Option β) none (fun p _ ih => cond (Nat.beq p.1 t) (some p.2) ih) e

inductive Ex where
  | norm | exit (id : Nat) | ret
structure Res where
  ex : Ex
  vals : List Value
  w : World

/-! ### Typed values -/
section
variable {α : Type}
noncomputable def opt {β : Type} (x : Option β) (f : β → Option α) : Option α := Option.rec none f x
def tI (k : IntKind) (v : Value) (f : Int → Option α) : Option α := match v with | .int k' n => if k' = k then f n else none | _ => none
def tB (v : Value) (f : Bool → Option α) : Option α := match v with | .bool b => f b | _ => none
def tS (v : Value) (f : ByteArray → Option α) : Option α := match v with | .string s => f s | _ => none
def tL (v : Value) (f : Option Addr → Nat → Nat → Option α) : Option α := match v with | .slice a l c => f a l c | _ => none
def tP (v : Value) (f : Option Addr → Option α) : Option α := match v with | .pointer p => f p | _ => none
def tD (v : Value) (f : Addr → Option α) : Option α := match v with | .pointer (some a) => f a | _ => none
def tM (v : Value) (f : Option Nat → Option α) : Option α := match v with | .map m => f m | _ => none
def tF (v : Value) (f : Fn → Array Value → Array Value → Option α) : Option α := match v with | .func g a b => f g a b | _ => none
def tA (v : Value) (f : List Value → Option α) : Option α := match v with | .agg cs => f cs.toList | _ => none
def tC (vs : List Value) (f : Value → List Value → Option α) : Option α := match vs with | v :: vs => f v vs | [] => none
def tN (vs : List Value) (x : Option α) : Option α := match vs with | [] => x | _ => none
def tG (g : Fn) (f : FuncId → Option α) : Option α := match g with | .func i => f i | _ => none
noncomputable def cl {β : Type} (x : Option (List Value × World)) (f : List Value → World → Option β) : Option β := Option.rec none (fun r => Prod.rec (fun a b => f a b) r) x
theorem tG_mk (i : FuncId) (f : FuncId → Option α) : tG (.func i) f = f i := rfl
theorem cl_some {β : Type} (vs : List Value) (w : World) (f : List Value → World → Option β) : cl (some (vs, w)) f = f vs w := rfl
theorem tI_mk (k : IntKind) (n : Int) (f : Int → Option α) : tI k (.int k n) f = f n := by simp [tI]
theorem tB_mk (b : Bool) (f : Bool → Option α) : tB (.bool b) f = f b := rfl
theorem tS_mk (s : ByteArray) (f : ByteArray → Option α) : tS (.string s) f = f s := rfl
theorem tL_mk (a : Option Addr) (l c : Nat) (f : Option Addr → Nat → Nat → Option α) : tL (.slice a l c) f = f a l c := rfl
theorem tP_mk (p : Option Addr) (f : Option Addr → Option α) : tP (.pointer p) f = f p := rfl
theorem tD_mk (a : Addr) (f : Addr → Option α) : tD (.pointer (some a)) f = f a := rfl
theorem tM_mk (p : Option Nat) (f : Option Nat → Option α) : tM (.map p) f = f p := rfl
theorem tF_mk (g : Fn) (a b : Array Value) (f : Fn → Array Value → Array Value → Option α) : tF (.func g a b) f = f g a b := rfl
theorem tA_mk (cs : List Value) (f : List Value → Option α) : tA (.agg cs.toArray) f = f cs := by simp [tA]
theorem tC_mk (v : Value) (vs : List Value) (f : Value → List Value → Option α) : tC (v :: vs) f = f v vs := rfl
theorem tN_mk (x : Option α) : tN [] x = x := rfl
theorem opt_some {β : Type} (x : β) (f : β → Option α) : opt (some x) f = f x := rfl
theorem opt_none {β : Type} (f : β → Option α) : opt none f = none := rfl
end

inductive Lf where
  | int (k : IntKind) | bool | str | sl | ptr | map | fn | adr
inductive Kd where
  | lf (l : Lf) | agg (ls : List Lf)

section
variable {α : Type}
noncomputable def tyL (l : Lf) (v : Value) (f : Value → Option α) : Option α :=
  match l with
  | .int k => tI k v fun n => f (.int k n)
  | .bool => tB v fun b => f (.bool b)
  | .str => tS v fun s => f (.string s)
  | .sl => tL v fun a l c => f (.slice a l c)
  | .ptr => tP v fun p => f (.pointer p)
  | .map => tM v fun p => f (.map p)
  | .fn => tF v fun g a b => f (.func g a b)
  | .adr => tD v fun a => f (.pointer (some a))
noncomputable def tyLs (ls : List Lf) : List Value → (List Value → Option α) → Option α :=
  List.rec (motive := fun _ => List Value → (List Value → Option α) → Option α) (fun vs f => tN vs (f []))
    (fun l _ ih vs f => tC vs fun v vs => tyL l v fun v' => ih vs fun cs => f (v' :: cs)) ls
noncomputable def ty (k : Kd) (v : Value) (f : Value → Option α) : Option α :=
  match k with
  | .lf l => tyL l v f
  | .agg ls => tA v fun cs => tyLs ls cs fun cs' => f (.agg cs'.toArray)
noncomputable def tys (ks : List Kd) : List Value → (List Value → Option α) → Option α :=
  List.rec (motive := fun _ => List Value → (List Value → Option α) → Option α) (fun vs f => tN vs (f []))
    (fun k _ ih vs f => tC vs fun v vs => ty k v fun v' => ih vs fun cs => f (v' :: cs)) ks

/-! ### Memory -/
/-- A store into one cell. -/
noncomputable def stC (w : World) (a : Addr) (v : Value) (f : World → Option α) : Option α :=
  opt (w.cell? a) fun _ => cond (w.frozen? a) none (f (w.setCell a v))
noncomputable def ldLs (w : World) (a : Addr) (ls : List Lf) : Nat → (List Value → Option α) → Option α :=
  List.rec (motive := fun _ => Nat → (List Value → Option α) → Option α) (fun _ f => f [])
    (fun l _ ih i f => opt (w.cell? (a.add i)) fun v => tyL l v fun v' => ih (i + 1) fun cs => f (v' :: cs)) ls
noncomputable def ldK (k : Kd) (w : World) (a : Addr) (f : Value → Option α) : Option α :=
  match k with
  | .lf l => opt (w.cell? a) fun v => tyL l v f
  | .agg ls => ldLs w a ls 0 fun cs => f (.agg cs.toArray)
def oneC (v : Value) : Bool := match v with | .agg _ | .tuple _ => false | _ => true
noncomputable def stLs (a : Addr) (vs : List Value) : Nat → World → (World → Option α) → Option α :=
  List.rec (motive := fun _ => Nat → World → (World → Option α) → Option α) (fun _ w f => f w)
    (fun v _ ih i w f => cond (oneC v) (stC w (a.add i) v fun w' => ih (i + 1) w' f) none) vs
/-- The cells of a value. -/
def cellsL (v : Value) : List Value := match v with | .agg cs => cs.toList | v => [v]
/-- The place of an element of a slice; of an array. -/
def ixA (A : Option Addr) (l : Nat) (i : Int) (sz : Nat) (f : Addr → Option α) : Option α :=
  match A with
  | some a => if 0 ≤ i ∧ i < l then f (a.add (i.toNat * sz)) else none
  | none => none
def ixR0 (a : Addr) (l : Nat) (i : Int) (sz : Nat) (f : Addr → Option α) : Option α :=
  if 0 ≤ i ∧ i < l then f (a.add (i.toNat * sz)) else none
/-- The same, a word that nothing lays open (the kernel would lay open the indexes with it). -/
noncomputable def ixR (a : Addr) (l : Nat) (i : Int) (sz : Nat) (f : Addr → Option α) : Option α := Classical.choose (⟨@ixR0 α, rfl⟩ : ∃ g, g = @ixR0 α) a l i sz f
theorem ixR_eq (a : Addr) (l : Nat) (i : Int) (sz : Nat) (f : Addr → Option α) : ixR a l i sz f = ixR0 a l i sz f := by
  unfold ixR
  rw [Classical.choose_spec (⟨@ixR0 α, rfl⟩ : ∃ g, g = @ixR0 α)]
/-- A cut of a slice (no third index): Low, High. -/
def cutS (A : Option Addr) (c : Nat) (lo hi : Int) (sz : Nat) (f : Option Addr → Nat → Nat → Option α) : Option α :=
  if 0 ≤ lo ∧ lo ≤ hi ∧ hi ≤ c then f (if c = lo.toNat then A else A.map (·.add (lo.toNat * sz))) (hi.toNat - lo.toNat) (c - lo.toNat) else none
def cut3 (A : Option Addr) (c : Nat) (lo hi mx : Int) (sz : Nat) (f : Option Addr → Nat → Nat → Option α) : Option α :=
  if 0 ≤ lo ∧ lo ≤ hi ∧ hi ≤ mx ∧ mx ≤ c then f (if mx.toNat = lo.toNat then A else A.map (·.add (lo.toNat * sz))) (hi.toNat - lo.toNat) (mx.toNat - lo.toNat) else none
/-- A byte of a string. -/
def ixS (s : ByteArray) (i : Int) (f : Int → Option α) : Option α :=
  if 0 ≤ i then match s[i.toNat]? with | some b => f b.toNat | none => none else none
/-- Nothing: it lays the words of the reading's inside above all words that are told (so that they are laid open first). -/
def bump {β : Type} (x : β) : β := (fun _ : (Option Addr → Nat → Int → Int → Nat → (Option Addr → Nat → Nat → Option Unit) → Option Unit) × (Option Addr → Nat → Int → Nat → (Addr → Option Unit) → Option Unit) => x) (@cutS Unit, @ixA Unit)
noncomputable def optL {β : Type} (x : Option β) (f : β → Option α) : Option α := Option.rec none f (bump x)
/-- The same inside the reading: laid open first. -/
def tIL (k : IntKind) (v : Value) (f : Int → Option α) : Option α := match bump v with | .int k' n => if k' = k then f n else none | _ => none
def tBL (v : Value) (f : Bool → Option α) : Option α := match bump v with | .bool b => f b | _ => none
def tSL (v : Value) (f : ByteArray → Option α) : Option α := match bump v with | .string s => f s | _ => none
def tLL (v : Value) (f : Option Addr → Nat → Nat → Option α) : Option α := match bump v with | .slice a l c => f a l c | _ => none
def tPL (v : Value) (f : Option Addr → Option α) : Option α := match bump v with | .pointer p => f p | _ => none
def tFL (v : Value) (f : Fn → Array Value → Array Value → Option α) : Option α := match bump v with | .func g a b => f g a b | _ => none
def tAL (v : Value) (f : List Value → Option α) : Option α := match bump v with | .agg cs => f cs.toList | _ => none
def tGL (g : Fn) (f : FuncId → Option α) : Option α := match bump g with | .func i => f i | _ => none
/-- A run of the model's own. -/
def rn (P : Program) (s : Sem Value) (w : World) (f : Value → World → Option α) : Option α :=
  match s.run P w with
  | .ok v w' => f v w'
  | .halt _ _ => none
/-- What asks nothing of the world. -/
noncomputable def pureS {β : Type} (P : Program) (s : Sem β) : Option β :=
  Sem.rec (motive := fun _ => Option β) some (fun _ _ _ _ => none) (fun _ _ _ _ _ => none) (fun _ _ _ => none) (fun _ _ _ => none) (fun _ _ _ _ => none) (fun _ _ _ => none) (fun _ _ _ => none) (fun _ _ _ _ => none)
    (fun _ _ _ => none) (fun _ _ _ => none) (fun _ ih => ih P) (fun _ _ ih => ih) (fun _ => none) s
theorem pureS_run {β : Type} {P : Program} {s : Sem β} {x : β} (h : pureS P s = some x) (w : World) : s.run P w = .ok x w := by
  induction s with
  | pure a => simp only [pureS, Option.some.injEq] at h; subst h; rfl
  | program k ih => simp only [pureS] at h; simp only [Sem.run]; exact ih P h
  | mark m k ih => simp only [pureS] at h; simp only [Sem.run]; exact ih h
  | _ => simp [pureS] at h
/-- The bytes of a slice as a string. -/
noncomputable def rdB (w : World) (a : Addr) (n : Nat) : Nat → Option (List UInt8) :=
  Nat.rec (motive := fun _ => Nat → Option (List UInt8)) (fun _ => some [])
    (fun _ ih i => opt (w.cell? (a.add i)) fun v => tI .u8 v fun x => opt (ih (i + 1)) fun l => some (UInt8.ofNat x.toNat :: l)) n
noncomputable def strOf (w : World) (A : Option Addr) (l : Nat) : Option ByteArray :=
  match A with
  | none => some .empty
  | some a => opt (rdB w a l 0) fun l => some ⟨l.toArray⟩
end

/-! ### Types -/
inductive D where
  | int (k : IntKind) | bool | str | sl (elem esz : Nat) | arr (len esz : Nat) | st | ptr | map | fn | tup (ks : List Kd) | i2 (k : IntKind) | other
structure TI where
  d : D
  kd : Kd
abbrev TT := List (Nat × TI)
abbrev CallF := List Value → World → Option (List Value × World)
abbrev Orc := List (Nat × (List Value → World → Option (List Value × World)))

/-! ### One operation -/
section
variable {α : Type}
noncomputable def vl (x : Operand) (e : Env) (f : Value → Option α) : Option α :=
  match x with
  | .tmp t => optL (look t e) f
  | .const v => f v
  | .func g => f (.func (.func g) #[] #[])
  | .global g => f (.pointer (some ⟨g, 0, none⟩))
noncomputable def vls (xs : List Operand) (e : Env) : (List Value → Option α) → Option α :=
  List.rec (motive := fun _ => (List Value → Option α) → Option α) (fun f => f []) (fun x _ ih f => vl x e fun v => ih fun vs => f (v :: vs)) xs
/-- What the model's own reading of operands is. -/
noncomputable def rho (e : Env) (x : Operand) : Value :=
  match x with
  | .tmp t => (look t e).getD undef
  | .const v => v
  | .func g => .func (.func g) #[] #[]
  | .global g => .pointer (some ⟨g, 0, none⟩)

/-- Quotients and shifts. -/
def arith (op : BinOp) (k : IntKind) (a b : Int) (f : Value → Option α) : Option α :=
  match op with
  | .quo => if b = 0 then none else f (.int k (k.wrap (a.tdiv b)))
  | .rem => if b = 0 then none else f (.int k (a.tmod b))
  | .shl => if b < 0 then none else f (.int k (k.wrap (a * 2 ^ min b.toNat k.bits)))
  | .shr => if b < 0 then none else f (.int k (a.fdiv (2 ^ min b.toNat k.bits)))
  | _ => none
def isShift (op : BinOp) : Bool := match op with | .shl | .shr => true | _ => false
def isArith (op : BinOp) : Bool := match op with | .quo | .rem | .shl | .shr => true | _ => false
def eqOp (op : BinOp) (b : Bool) (f : Value → Option α) : Option α :=
  match op with
  | .eql => f (.bool b)
  | .neq => f (.bool (!b))
  | _ => none
/-- Against nil. -/
noncomputable def eqNil (d : D) (x y : Value) (op : BinOp) (f : Value → Option α) : Option α :=
  match d with
  | .ptr => match x, y with | .pointer p, .pointer none => eqOp op p.isNone f | _, _ => none
  | .sl _ _ => match x, y with | .slice p _ _, .slice none _ _ => eqOp op p.isNone f | _, _ => none
  | .map => match x, y with | .map p, .map none => eqOp op p.isNone f | _, _ => none
  | _ => none
def isI2 (d : D) : Bool := match d with | .i2 _ => true | _ => false
/-- Two arrays of two numbers. -/
noncomputable def eqI2 (d : D) (x y : Value) (op : BinOp) (f : Value → Option α) : Option α :=
  match d with
  | .i2 k => tA x fun xs => tA y fun ys => tC xs fun a xs => tC xs fun b xs => tN xs (tC ys fun c ys => tC ys fun d ys => tN ys (tI k a fun a => tI k b fun b => tI k c fun c => tI k d fun d => eqOp op (a == c && b == d) f))
  | _ => none
def isNilable (d : D) : Bool := match d with | .ptr | .sl _ _ | .map => true | _ => false
noncomputable def kdOf (T : TT) (t : TypeId) : Option Kd := match look t T with | some { d := .tup _, .. } => none | some i => some i.kd | none => none
noncomputable def dOf (T : TT) (t : TypeId) : D := match look t T with | some i => i.d | none => .other
/-- The results' kinds of a call. -/
noncomputable def kinds (T : TT) (t : TypeId) : Option (List Kd) := match look t T with | some { d := .tup ks, .. } => some ks | some i => some [i.kd] | none => none
def unL (vs : List Value) : Value := match vs with | [v] => v | vs => .tuple vs.toArray
/-- A call's results as one value. -/
noncomputable def outs (ks : List Kd) (rs : List Value) (f : Value → Option α) : Option α :=
  match ks with
  | [kd] => tC rs fun v rs => ty kd v fun u => tN rs (f u)
  | ks => tys ks rs fun us => f (.tuple us.toArray)

/-- A value, by its form. -/
def frc (v : Value) (f : Value → Option α) : Option α :=
  match v with
  | .bool b => f (.bool b)
  | .int k n => f (.int k n)
  | .string s => f (.string s)
  | .pointer a => f (.pointer a)
  | .slice a l c => f (.slice a l c)
  | .map m => f (.map m)
  | .func g a b => f (.func g a b)
  | .nilFunc => f .nilFunc
  | .agg cs => f (.agg cs)
  | .tuple vs => f (.tuple vs)
  | _ => none
/-- Where the world stays as it is. -/
noncomputable def opP (P : Program) (o : Oper) (e : Env) (k : Value → Option α) : Option α :=
  vls o.op.operands.toList e fun _ => match pureS P (execOp (rho e) o) with
  | some (.value v) => frc v k
  | _ => none
/-- The same, of any form. -/
noncomputable def opR (P : Program) (o : Oper) (e : Env) (k : Value → Option α) : Option α :=
  vls o.op.operands.toList e fun _ => match pureS P (execOp (rho e) o) with
  | some (.value v) => k v
  | _ => none
noncomputable def opW (P : Program) (o : Oper) (e : Env) (w : World) (k : Value → World → Option α) : Option α :=
  vls o.op.operands.toList e fun _ => match (execOp (rho e) o).run P w with
  | .ok (.value v) w' => frc v fun v => k v w'
  | .ok .skip w' => k undef w'
  | _ => none

/-- Is it of a map? -/
noncomputable def isMapArg (T : TT) (ts : Array TypeId) : Bool := match ts.toList with | [t] => (match dOf T t with | .map => true | _ => false) | _ => false
/-- What a step of a range tells; an entry. -/
noncomputable def nxV (v : Value) (f : Option α) (g : Value → Value → Option α) : Option α :=
  match v with
  | .tuple vs => tC vs.toList fun u us => tB u fun b => cond b (tC us fun a us => tC us fun c us => tN us (g a c)) (tN us f)
  | _ => none
noncomputable def enV (v : Value) (g : Value → Value → Option α) : Option α :=
  match v with
  | .tuple vs => tC vs.toList fun a us => tC us fun c us => tN us (g a c)
  | _ => none
/-- A look-up with ok. -/
noncomputable def luV (v : Value) (f : List Value → Option α) : Option α :=
  match v with
  | .tuple vs => f vs.toList
  | _ => none
inductive Cls where
  | v | r | e
  deriving DecidableEq
/-- v: of the operands alone; r: it reads; e: the world may change. -/
noncomputable def cls (T : TT) (o : Oper) : Cls :=
  match o.op with
  | .load .. => .r
  | .convert _ d _ => match dOf T d with | .sl _ _ => .e | _ => .r
  | .move .. | .assign .. | .pick .. | .build .. | .field .. | .unOp .. | .makeFunc .. | .extract .. | .fieldAddr .. | .indexAddr .. | .index .. | .slice .. | .nilCheck .. | .binOp .. => .v
  | .call { callee := .builtin .len, argTypes := ts, .. } => cond (isMapArg T ts) .e .v
  | .call { callee := .builtin .min, .. } | .call { callee := .builtin .max, .. } => .v
  | _ => .e

noncomputable def opE (P : Program) (T : TT) (O : Orc) (o : Oper) (e : Env) (w : World) (k : Value → World → Option α) : Option α :=
  match o.op with
  | .load t x => vl x e fun v => tPL v fun p => optL p fun a => optL (kdOf T t) fun kd => ldK kd w a fun v => k v w
  | .store t x y => vl x e fun v => tPL v fun p => optL p fun a => optL (kdOf T t) fun kd => vl y e fun u =>
      match kd with
      | .lf _ => stLs a [u] 0 w fun w' => k undef w'
      | .agg ls => tAL u fun cs => cond (Nat.beq cs.length ls.length) (stLs a cs 0 w fun w' => k undef w') none
  | .indexAddr t x i => vl x e fun v => vl i e fun vi =>
      match dOf T t, vi with
      | .sl _ sz, .int _ n => tLL v fun A l _ => ixA A l n sz fun a => k (.pointer (some a)) w
      | .arr len sz, .int _ n => tPL v fun p => optL p fun a => ixR a len n sz fun a => k (.pointer (some a)) w
      | _, _ => none
  | .index t x i => vl x e fun v => vl i e fun vi =>
      match dOf T t, vi with
      | .str, .int _ n => tSL v fun s => ixS s n fun b => k (.int .u8 b) w
      | .arr _ _, .int _ _ => opP P o e fun v => k v w
      | _, _ => none
  | .slice t x lo hi none => vl x e fun v =>
      match dOf T t with
      | .sl _ sz => tLL v fun A l c =>
          let go := fun (lo hi : Int) => cutS A c lo hi sz fun A l c => k (.slice A l c) w
          match lo, hi with
          | some lo, some hi => vl lo e fun vlo => tIL .i64 vlo fun lo => vl hi e fun vhi => tIL .i64 vhi fun hi => go lo hi
          | some lo, none => vl lo e fun vlo => tIL .i64 vlo fun lo => go lo l
          | none, some hi => vl hi e fun vhi => tIL .i64 vhi fun hi => go 0 hi
          | none, none => k (.slice A l c) w
      | _ => none
  | .slice t x lo hi (some mx) => vl x e fun v =>
      match dOf T t, lo, hi with
      | .sl _ sz, some lo, some hi => tLL v fun A _ c => vl lo e fun vlo => tIL .i64 vlo fun lo => vl hi e fun vhi => tIL .i64 vhi fun hi => vl mx e fun vmx => tIL .i64 vmx fun mx =>
          cut3 A c lo hi mx sz fun A l c => k (.slice A l c) w
      | .sl _ sz, none, some hi => tLL v fun A _ c => vl hi e fun vhi => tIL .i64 vhi fun hi => vl mx e fun vmx => tIL .i64 vmx fun mx =>
          cut3 A c 0 hi mx sz fun A l c => k (.slice A l c) w
      | _, _, _ => none
  | .nilCheck x => vl x e fun v => tPL v fun p => optL p fun a => k (.pointer (some a)) w
  | .binOp op t x y _ =>
      cond (isArith op) (vl x e fun vx => vl y e fun vy => match vx, vy with | .int k1 a, .int k2 b => cond (isShift op || decide (k1 = k2)) (arith op k1 a b fun v => k v w) none | _, _ => none)
        (cond (isNilable (dOf T t)) (vl x e fun vx => vl y e fun vy => eqNil (dOf T t) vx vy op fun v => k v w)
          (cond (isI2 (dOf T t)) (vl x e fun vx => vl y e fun vy => eqI2 (dOf T t) vx vy op fun v => k v w) (opP P o e fun v => k v w)))
  | .convert s d x =>
      match dOf T s, dOf T d with
      | .sl el _, .str => match dOf T el with
        | .int .u8 => vl x e fun v => tLL v fun A l _ => opt (strOf w A l) fun s => k (.string s) w
        | _ => none
      | .int _, .int _ => opP P o e fun v => k v w
      | _, .sl _ _ => vl x e fun v => rn P (Go.convert s d v) w fun v w' => tL v fun A l c => k (.slice A l c) w'
      | _, _ => none
  | .call c =>
      match c.callee with
      | .builtin b =>
        match b with
        | .len => cond (isMapArg T c.argTypes) (vls c.args.toList e fun vs => rn P (Builtin.len_ c.argTypes o.type vs.toArray) w fun v w' => tI .i64 v fun n => k (.int .i64 n) w') (opP P o e fun v => k v w)
        | .min | .max => opP P o e fun v => k v w
        | .append => vls c.args.toList e fun vs => rn P (Builtin.append_ c.argTypes o.type vs.toArray) w fun v w' => tL v fun A l c => k (.slice A l c) w'
        | .clear => vls c.args.toList e fun vs => rn P (Builtin.clear_ c.argTypes o.type vs.toArray) w fun v w' => k v w'
        | .copy => vls c.args.toList e fun vs => rn P (Builtin.copy_ c.argTypes o.type vs.toArray) w fun v w' => k v w'
        | .delete => vls c.args.toList e fun vs => rn P (Builtin.delete_ c.argTypes o.type vs.toArray) w fun v w' => k v w'
        | _ => none
      | .value f => vl f e fun vf => tFL vf fun g first caps => tGL g fun g =>
          vls c.args.toList e fun vs => optL (look g O) fun run => cl (run (first.toList ++ vs ++ caps.toList) w) fun rs w' =>
              optL (kinds T o.type) fun ks => outs ks rs fun u => k u w'
      | _ => none
  | .makeSlice t l c => vl l e fun vl' => vl c e fun vc => rn P (Instr.makeSlice t vl' vc) w fun v w' => tL v fun A l c => k (.slice A l c) w'
  | .lookup t x i ok => vl x e fun vx => vl i e fun vi => rn P (Instr.lookup t vx vi ok) w fun v w' => optL (kinds T o.type) fun ks =>
      match ks with
      | [kd] => ty kd v fun u => k u w'
      | ks => luV v fun vs => tys ks vs fun us => k (.tuple us.toArray) w'
  | .mapUpdate t m i x => vl m e fun vm => vl i e fun vi => vl x e fun vx => rn P (do Instr.mapUpdate t vm vi vx; pure undef) w fun _ w' => k undef w'
  | .alloc .. | .box .. | .buildSlice .. | .makeMap .. => opW P o e w k
  | .range t x => vl x e fun vx => rn P (Instr.range t vx) w fun v w' => tD v fun a => k (.pointer (some a)) w'
  | .next x s => vl x e fun vx => rn P (Instr.next vx s o.type) w fun v w' => nxV v (k (.tuple #[.bool false]) w') fun a b => k (.tuple #[.bool true, a, b]) w'
  | .entry x => vl x e fun vx => rn P (Instr.entry vx) w fun v w' => enV v fun a b => k (.tuple #[a, b]) w'
  | .extract .. => opR P o e fun v => match kdOf T o.type with | some kd => ty kd v fun u => k u w | none => frc v fun v => k v w
  | .move .. | .assign .. | .pick .. | .build .. | .field .. | .unOp .. | .makeFunc .. | .fieldAddr .. => opP P o e fun v => k v w
  | _ => none
end
end Go.Proofs.Ytdcdgmiojlldaaa.Big
