/- Proved here: winchlaw26.TraceImages is true for every input, the listed variables tied to the program's text. Conditions: those of the row Rows.traceImagesRow (its listed variables as laid); none else. -/
import Derived.Test.YtmaknbbijgihgaaGreatDoorA8
import Derived.Test.YtmaknbbijgihgaaGreatDoorC5
import Derived.Test.YtmaknbbijgihgaaGreatDoorC6
import Derived.Test.YtmaknbbijgihgaaGreatDoorC7
import Derived.SevenTiedAt
import Derived.Test.YtmaknbbijgihgaaGreatDoorCards
set_option linter.all false
namespace Go.Proofs.YtmaknbbijgihgaaGreatDoor
open Go.RowKit
set_option maxRecDepth 1000000
theorem goes_none {P : Program} (h : P.funcs.any Func.goes = false) (f : FuncId) : P.goes f = false := by
  unfold Program.goes
  rw [h, Bool.and_false, Bool.or_false]
  rw [List.any_eq_false]
  intro g _ hg
  obtain ⟨fn, h1, h2⟩ := (Option.any_eq_true _ _).1 hg
  have h3 : P.funcs.any Func.goes = true := by
    rw [← Array.any_toList]
    exact List.any_eq_true.2 ⟨fn, by rw [← Array.mem_def]; exact Array.mem_of_getElem? h1, h2⟩
  rw [h] at h3; cases h3
theorem goesBy_eq {c : OpenClaim} {P : Program} {f : FuncId} (hs : c.start = .entering) (hf : P.funcNamed c.func = some f) (h : P.funcs.any Func.goes = false) : false = c.goesBy P := by
  unfold OpenClaim.goesBy Program.goesAt Program.goesFrom
  rw [hs, hf, Option.any_some, goes_none h]; rfl
theorem cl_goes : false = Rows.traceImagesRow.goesBy Tryz.prog := goesBy_eq rfl named3 noGoes
theorem pin_prog : Tryz.pinned.checked.prog = Tryz.prog := rfl
theorem lifted' (os : Os) (started : os.Started) (H : Type) (enc : TypeId × Value → H) :
    ReturnsInHanded {} Tryz.checked os 3 .any ((OpenSpec.ofChange Rows.traceImagesSpec).preRow enc Tryz.prog Tryz.f3 [] false Rows.traceImagesRow.laid) (Rows.traceImagesSpec.post enc Tryz.prog Tryz.f3 false true false false) :=
  lifted os started H enc (fun _ _ _ => 0)
theorem law_holds : Rows.TraceImagesSaid := by
  unfold Rows.TraceImagesSaid
  refine OpenClaim.holds_of_wide 3 Tryz.f3 rfl rfl rfl rfl rfl rfl rfl ⟨rfl, rfl, rfl, rfl, rfl⟩ rfl rfl rfl rfl rfl ?_ ?_ ?_ ?_ ?_ ?_
  · rw [pin_prog]; exact named3
  · rw [pin_prog]; exact Tryz.func3
  · rw [pin_prog]; exact closedT
  · rw [pin_prog]; exact cl_inst
  · rw [pin_prog]; exact cl_wrap
  · intro os started H enc _
    rw [OpenClaim.pre_eq_preRow]
    exact lifted' os started H enc
theorem row_tie : Rows.traceImagesRow.laidByTextAt .later Tryz.pinned [.data, .data, .data, .sentinel, .sentinel, .mapped, .mapped, .mappedDeep, .widerDeep] true :=
  OpenClaim.laidByTextAt_later rfl rfl (by rw [laid_eq]; exact tieT) cl_unsafe
/-- The statement. -/
theorem traceImages_card : Rows.TraceImagesCardSaid :=
  Claim7.holds_tied_plain_at .later [] [.data, .data, .data, .sentinel, .sentinel, .mapped, .mapped, .mappedDeep, .widerDeep] true (true, "e96f56128e82c9d5152c9763e3d3f9f2b2a10f6c11030d1ce5f6526f8beebf32") true
    law_holds (fun _ h => by cases h) cl_wfText (fun _ h => by cases h) row_tie rfl ⟨rfl, rfl⟩ cl_main rfl
    (fun f fn hf hfn => by
      obtain rfl : f = 3 := (Option.some.inj (named3.symm.trans hf)).symm
      obtain rfl : fn = Tryz.f3 := (Option.some.inj (Tryz.func3.symm.trans hfn)).symm
      refine ⟨cl_looks, fun j t ht => ?_⟩
      have hm : t ∈ Tryz.f3.params.toList := by rw [← Array.mem_def]; exact Array.mem_of_getElem? ht
      rw [Tryz.params3] at hm
      simp only [List.mem_cons, List.not_mem_nil, or_false] at hm
      rcases hm with rfl | rfl | rfl
      · show (match Tryz.prog.underlying 22 with | some (.func _ _ _) => true | _ => false) = false
        rw [Tryz.underlying22]
      · show (match Tryz.prog.underlying 22 with | some (.func _ _ _) => true | _ => false) = false
        rw [Tryz.underlying22]
      · show (match Tryz.prog.underlying 3 with | some (.func _ _ _) => true | _ => false) = false
        rw [Tryz.underlying3])
    cl_goes
#print axioms traceImages_card
end Go.Proofs.YtmaknbbijgihgaaGreatDoor
