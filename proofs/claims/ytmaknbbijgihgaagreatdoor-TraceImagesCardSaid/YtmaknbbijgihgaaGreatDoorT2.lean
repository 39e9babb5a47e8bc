/- Proved here: the tie: what gosem.cut.vars stores. Conditions: those of the row Rows.traceImagesRow (its listed variables as laid); none else. -/
import Derived.Test.YtmaknbbijgihgaaGreatDoorT1
set_option linter.all false
namespace Go.Proofs.YtmaknbbijgihgaaGreatDoor
open Go
set_option maxRecDepth 1000000
def namedIn (P : Program) (D : List (List UInt8)) (g : FuncId) (laid : List (String × DataW Unit)) : Bool :=
  match (P.funcs[g]?).bind (·.body) with
  | some code =>
    match code.laysInOrder [] with
    | some stored => stored.eraseDups.length == stored.length && P.callsLaidAlone g code &&
        laid.all fun x => (P.globalNamed x.1).any fun v => (stored.contains v == (kindBaseIn D x.1 != some .zero)) && callsFit code v (kindBaseIn D x.1) &&
          ((code.storedByHandle P).contains v == (kindBaseIn D x.1 == some .handle)) && (x.2.handleName?.isSome == (kindBaseIn D x.1 == some .handle || kindBaseIn D x.1 == some .funcs)) &&
          (kindBaseIn D x.1 != some .handle || handlePair x) && (x.2.funcsIn?.isSome == (kindBaseIn D x.1 == some .funcs)) && mapsFit code v x.2 (kindBaseIn D x.1)
    | none => false
  | none => false
theorem namedIn_eq (P : Program) (g : FuncId) (laid : List (String × DataW Unit)) : varsNamedLaterB P g laid = namedIn P P.doorBytes g laid := rfl
theorem tw6a : namedIn Tryz.prog (doorN.map fun l => l.map Nat.toUInt8) 786 laidT = true := by kernel_rfl
theorem tw6 : varsNamedLaterB Tryz.prog (varsId Tryz.prog) laidT = true := by rw [tid, namedIn_eq, doorB]; exact tw6a
end Go.Proofs.YtmaknbbijgihgaaGreatDoor
