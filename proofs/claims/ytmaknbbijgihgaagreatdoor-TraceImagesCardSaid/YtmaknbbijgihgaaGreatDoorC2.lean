/- Proved here: closed facts of the row: answered in place, unfollowed. Conditions: those of the row Rows.traceImagesRow (its listed variables as laid); none else. -/
import Derived.Test.YtmaknbbijgihgaaGreatDoorC1
import Derived.Test.YtmaknbbijgihgaaGreatDoorRows
set_option linter.all false
namespace Go.Proofs.YtmaknbbijgihgaaGreatDoor
set_option maxRecDepth 1000000
def inPlaceOn (P : Program) (L : List FuncId) : List String := L.filterMap fun g => (P.funcs[g]?).bind fun fn => if fn.ours || fn.body.isNone || fn.name == "runtime.NumGoroutine" then some fn.name else none
def unfollowedOn (P : Program) (L : List FuncId) : Bool := L.any fun g => (P.funcs[g]?).any fun fn => match fn.body with | some c => c.unfollowed | none => entryCalls fn
def varsNamedOn (P : Program) (L : List FuncId) : List String :=
  (((L.flatMap fun g => ((P.funcs[g]?).bind (·.body)).elim [] Code.globalsNamed).eraseDups).filterMap (fun g => (P.globals[g]?).map (·.name)) ++
   L.filterMap fun g => (P.funcs[g]?).bind fun fn => if fn.body.isNone then entryReads.lookup fn.name else none).eraseDups
theorem inPlaceOn_eq (P : Program) (f : FuncId) : P.inPlace f = inPlaceOn P (P.closure f) := rfl
theorem unfollowedOn_eq (P : Program) (f : FuncId) : P.unfollowed f = unfollowedOn P (P.closure f) := rfl
theorem varsNamedOn_eq (P : Program) (f : FuncId) : P.varsNamed f = varsNamedOn P (P.closure f) := rfl
theorem on_unfollowed : unfollowedOn Tryz.prog closure3 = true := by kernel_rfl
end Go.Proofs.YtmaknbbijgihgaaGreatDoor
namespace Go.Proofs.YtmaknbbijgihgaaGreatDoor
set_option maxRecDepth 1000000
theorem on_inPlace : inPlaceOn Tryz.prog closure3 = Rows.traceImagesRow.inPlace := by kernel_rfl
end Go.Proofs.YtmaknbbijgihgaaGreatDoor
