/- packed by slim.py -/
import Derived.Laws.Externs
import Derived.Lib.Bytealg
import Derived.DataElems
import Derived.Test.YtdcdgmiojlldaaaDoorZP2
/- Functions of Go's library that have no body: what they answer. -/
namespace Go.Proofs.YtdcdgmiojlldaaaDoor.Big
open Go
set_option linter.unusedVariables false
set_option linter.unusedSimpArgs false
def al {α : Type} (w : World) (cs : Array Value) (t : TypeId) (f : World → Option α) : Option α := (fun (_ : Unit) => f (w.alloc (.cells cs t))) (bump ())
theorem al_eq {α : Type} (w : World) (cs : Array Value) (t : TypeId) (f : World → Option α) : al w cs t f = f (w.alloc (.cells cs t)) := rfl
end Go.Proofs.YtdcdgmiojlldaaaDoor.Big
