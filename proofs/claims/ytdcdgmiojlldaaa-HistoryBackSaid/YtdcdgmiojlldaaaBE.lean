/- Functions of Go's library that have no body: what they answer. -/
import Derived.Test.YtdcdgmiojlldaaaB10
import Derived.Laws.Externs
import Derived.Lib.Bytealg
import Derived.DataElems
namespace Go.Proofs.Ytdcdgmiojlldaaa.Big
open Go
set_option linter.unusedVariables false
set_option linter.unusedSimpArgs false
/-- A new block; the world behind it bears a name. -/
def al {α : Type} (w : World) (cs : Array Value) (t : TypeId) (f : World → Option α) : Option α := (fun (_ : Unit) => f (w.alloc (.cells cs t))) (bump ())
theorem al_eq {α : Type} (w : World) (cs : Array Value) (t : TypeId) (f : World → Option α) : al w cs t f = f (w.alloc (.cells cs t)) := rfl
/-- internal/bytealg.Compare. -/
noncomputable def cmpRun : CallF := fun vs w =>
  tC vs fun x vs => tL x fun A l _ => tC vs fun y vs => tL y fun B m _ => tN vs <| opt (strOf w A l) fun s => opt (strOf w B m) fun t => some ([.int .i64 (Lib.compareBytes s.data.toList t.data.toList)], w)
theorem loadBytes_run {P : Program} {w : World} : ∀ (ns : List Int) (a : Addr) (acc : ByteArray), (∀ j x, ns[j]? = some x → w.cell? (a.add j) = some (.int .u8 x)) →
    (Extern.Bytes.loadBytes a ns.length acc).run P w = .ok ⟨acc.data ++ (ns.map fun (n : Int) => UInt8.ofNat n.toNat).toArray⟩ w
  | [], a, acc, _ => by simp [Extern.Bytes.loadBytes]
  | x :: l, a, acc, h => by
    have h0 : w.cell? a = some (.int .u8 x) := by have := h 0 x rfl; rwa [Addr.add_zero'] at this
    have ih := loadBytes_run (P := P) (w := w) l (a.add 1) (acc.push x.toNat.toUInt8) fun j y hj => by
      have := h (j + 1) y (by simpa using hj)
      rw [Addr.add_add, Nat.add_comm]; exact this
    simp only [List.length_cons, Extern.Bytes.loadBytes, Sem.run_bind, run_load, h0, Result.andThen]
    rw [ih]
    congr 1
    apply ByteArray.ext
    simp [ByteArray.push]
theorem strOf_entry {P : Program} {w : World} {A : Option Addr} {l c : Nat} {s : ByteArray} (h : strOf w A l = some s) : (Extern.Bytes.bytesOf (.slice A l c)).run P w = .ok s w := by
  cases A with
  | none =>
    simp only [strOf, Option.some.injEq] at h
    subst h; rfl
  | some a =>
    simp only [strOf] at h
    obtain ⟨bs, hb, h⟩ := opt_inv h
    injection h with h; subst h
    have key : ∀ (n i : Nat) (bs : List UInt8), rdB w a n i = some bs → ∃ ns : List Int, bs = ns.map (fun n => UInt8.ofNat n.toNat) ∧ ns.length = n ∧ ∀ j x, ns[j]? = some x → w.cell? ((a.add i).add j) = some (.int .u8 x) := by
      intro n
      induction n with
      | zero => intro i bs h; have h : some [] = some bs := h; injection h with h; subst h; exact ⟨[], rfl, rfl, by simp⟩
      | succ n ih =>
        intro i bs h
        obtain ⟨v, hv, h⟩ := opt_inv (x := w.cell? (a.add i)) (f := fun v => tI .u8 v fun x => opt (rdB w a n (i + 1)) fun l => some (UInt8.ofNat x.toNat :: l)) h
        obtain ⟨x, rfl, h⟩ := tI_inv h
        obtain ⟨l', hl', h⟩ := opt_inv h
        injection h with h; subst h
        obtain ⟨ns, h1, h2, h3⟩ := ih (i + 1) l' hl'
        refine ⟨x :: ns, by simp [h1], by simp [h2], fun j y hj => ?_⟩
        cases j with
        | zero => simp at hj; subst hj; rw [Addr.add_zero']; exact hv
        | succ j =>
          have := h3 j y (by simpa using hj)
          rw [Addr.add_add] at this ⊢
          rwa [show i + 1 + j = i + (j + 1) by omega] at this
    obtain ⟨ns, h1, h2, h3⟩ := key l 0 bs hb
    subst h2
    have := loadBytes_run (P := P) (w := w) ns a .empty fun j x hj => by have := h3 j x hj; rwa [Addr.add_zero'] at this
    show (Extern.Bytes.loadBytes a ns.length .empty).run P w = _
    rw [this, h1]
    congr 1
    apply ByteArray.ext
    simp
theorem cmpRow {P : Program} {k : FuncId} {fn : Func} (hf : P.funcs[k]? = some fn) (hname : (fn.name == "runtime.NumGoroutine") = false) (hb : fn.body.isNone = true) (hn : Extern.findNext fn = none)
    (he : Extern.find fn = some Extern.BytealgCompare.compare) : Row P k cmpRun := by
  intro vs w us w' h
  obtain ⟨x, vs1, rfl, h⟩ := tC_inv (vs := vs) h
  obtain ⟨A, l, c, rfl, h⟩ := tL_inv (v := x) h
  obtain ⟨y, vs2, rfl, h⟩ := tC_inv (vs := vs1) h
  obtain ⟨B, m, d, rfl, h⟩ := tL_inv (v := y) h
  obtain ⟨rfl, h⟩ := tN_inv (vs := vs2) h
  obtain ⟨s, hs, h⟩ := opt_inv h
  obtain ⟨t, ht, h⟩ := opt_inv h
  injection h with h; injection h with h1 h2
  subst h1 h2
  rw [run_callFunc_extern hf hname hb hn he]
  have : (Extern.BytealgCompare.compare #[.slice A l c, .slice B m d]).run P w = .ok (.int .i64 (Lib.compareBytes s.data.toList t.data.toList)) w := by
    change Sem.run P (do pure (goInt (Extern.BytealgCompare.cmp (← Extern.Bytes.bytesOf (.slice A l c)) (← Extern.Bytes.bytesOf (.slice B m d))))) w = _
    simp only [Sem.run_bind, strOf_entry hs, strOf_entry ht, Sem.run_pure, Result.andThen]
    rw [Lib.cmp_eq]; rfl
  show ResOk P (((Extern.BytealgCompare.compare #[.slice A l c, .slice B m d]).run P w).andThen fun v w' => .ok (.value v) w') _ _
  rw [this]
  exact ⟨rfl, rfl⟩
end Go.Proofs.Ytdcdgmiojlldaaa.Big
