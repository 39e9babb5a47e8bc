/- Proved here: the start heap of the run of awake, and the calls of project.Check that it makes. Conditions: those of the row Rows.traceImagesRow (its listed variables as laid); none else. -/
import Derived.Test.YtmaknbbijgihgaaGreatDoorS4
import Derived.KernelRfl
import Derived.Test.YtmaknbbijgihgaaGreatDoorProg
set_option linter.all false
namespace Go.Proofs.YtmaknbbijgihgaaGreatDoor
open Go.Shadow
/-! ### What the run of 'awake' begins with, and the calls that it makes more than once -/
noncomputable def blk0 : ABlk := (.cells [(.str []), (.str [106, 111, 98]), (.str [115, 116, 97, 114, 116]), (.str [115, 116, 111, 112]), (.str [112, 111, 119, 101, 114]), (.str [102, 111, 114, 99, 101]), (.str [102, 114, 101, 101]), (.str [99, 104, 97, 110, 103, 101])] 182 false)
noncomputable def blk9 : ABlk := (.cells [(.mp 11)] 642 false)
noncomputable def blk11 : ABlk := (.map [((.int .i64 (.ofNat 1)), (.agg [(.bool true), (.int .i64 (.ofNat 1)), (.int .i64 (.ofNat 1)), (.bool false), (.bool false)]), 0), ((.int .i64 (.ofNat 2)), (.agg [(.bool true), (.int .i64 (.ofNat 0)), (.int .i64 (.ofNat 501)), (.bool false), (.bool false)]), 1), ((.int .i64 (.ofNat 3)), (.agg [(.bool false), (.int .i64 (.ofNat 1)), (.int .i64 (.ofNat 1)), (.bool true), (.bool true)]), 2), ((.int .i64 (.ofNat 4)), (.agg [(.bool false), (.int .i64 (.ofNat 1)), (.int .i64 (.ofNat 1)), (.bool false), (.bool true)]), 3), ((.int .i64 (.ofNat 5)), (.agg [(.bool true), (.int .i64 (.ofNat 2)), (.int .i64 (.ofNat 2)), (.bool true), (.bool false)]), 4), ((.int .i64 (.ofNat 6)), (.agg [(.bool false), (.int .i64 (.ofNat 1)), (.int .i64 (.ofNat 1)), (.bool true), (.bool false)]), 5), ((.int .i64 (.ofNat 7)), (.agg [(.bool false), (.int .i64 (.ofNat 1)), (.int .i64 (.ofNat 1)), (.bool true), (.bool false)]), 6), ((.int .i64 (.ofNat 8)), (.agg [(.bool false), (.int .i64 (.ofNat 0)), (.int .i64 (.ofNat 0)), (.bool false), (.bool false)]), 7), ((.int .i64 (.ofNat 9)), (.agg [(.bool false), (.int .i64 (.ofNat 0)), (.int .i64 (.ofNat 0)), (.bool false), (.bool false)]), 8)] 9 false)
noncomputable def heap0 : Heap := laid 12 [(0, blk0), (9, blk9), (11, blk11)]
noncomputable def argA : List AV := [(.agg [(.sl 20 0 1 1 true), (.sl 22 0 1 1 true)])]
noncomputable def argB : List AV := [(.agg [(.sl 566 0 1 1 false), (.sl 571 0 1 1 false)])]
noncomputable def listA : List (Nat × ABlk) := [(20, (.cells [(.int .i64 (.ofNat 1)), (.str [112]), (.int .i64 (.ofNat 0)), (.sl 14 0 2 2 true), (.int .i64 (.ofNat 1)), (.sl 18 0 1 1 true), .nilsl, .nilsl, .nilsl, (.str []), (.str []), (.str []), .nilsl, .nilsl, .nilsl] 111 false)),
  (14, (.cells [(.str [97]), (.int .i64 (.ofNat 1)), (.int .i64 (.ofNat 1)), (.int .i64 (.ofNat 0)), (.str []), .nilsl, (.str [37, 105, 48]), (.str [113]), (.int .i64 (.ofNat 2)), (.int .i64 (.ofNat 1)), (.int .i64 (.ofNat 0)), (.str []), .nilsl, (.str [37, 113, 48])] 89 false)),
  (18, (.cells [(.int .i64 (.ofNat 1)), (.str [113]), .nilsl, .nilsl, (.sl 16 0 1 1 true), (.int .i64 (.ofNat 0)), .nilsl, .nilsl, .nilsl, (.bool false)] 99 false)),
  (16, (.cells [(.int .i64 (.ofNat 6)), (.int .i64 (.ofNat 0)), (.int .i64 (.ofNat 0)), (.str []), (.str []), (.sl 15 0 1 1 true)] 94 false)),
  (15, (.cells [(.int .i64 (.ofNat 2)), (.int .i64 (.ofNat 0)), (.int .i64 (.ofNat 0)), (.str [97]), (.str []), .nilsl] 94 false)),
  (22, (.cells [(.str [116]), (.int .i64 (.ofNat 10)), (.int .i64 (.ofNat 0)), (.int .i64 (.ofNat 1)), (.sl 21 0 1 1 true)] 113 false)),
  (21, (.cells [(.str [112])] 9 false)),
  (9, blk9), (11, blk11)]
noncomputable def listB : List (Nat × ABlk) := [(566, (.cells [(.int .i64 (.ofNat 1)), (.str [112]), (.int .i64 (.ofNat 0)), (.sl 527 0 2 2 false), (.int .i64 (.ofNat 1)), (.sl 561 0 1 1 false), .nilsl, .nilsl, .nilsl, (.str []), (.str []), (.str []), .nilsl, .nilsl, .nilsl] 111 false)),
  (527, (.cells [(.str [97]), (.int .i64 (.ofNat 1)), (.int .i64 (.ofNat 1)), (.int .i64 (.ofNat 0)), (.str []), .nilsl, (.str [37, 105, 48]), (.str [113]), (.int .i64 (.ofNat 2)), (.int .i64 (.ofNat 1)), (.int .i64 (.ofNat 0)), (.str []), .nilsl, (.str [37, 113, 48])] 89 false)),
  (561, (.cells [(.int .i64 (.ofNat 1)), (.str [113]), .nilsl, .nilsl, (.sl 558 0 1 1 false), (.int .i64 (.ofNat 0)), .nilsl, .nilsl, .nilsl, (.bool false)] 99 false)),
  (558, (.cells [(.int .i64 (.ofNat 6)), (.int .i64 (.ofNat 0)), (.int .i64 (.ofNat 0)), (.str []), (.str []), (.sl 555 0 1 1 false)] 94 false)),
  (555, (.cells [(.int .i64 (.ofNat 2)), (.int .i64 (.ofNat 0)), (.int .i64 (.ofNat 0)), (.str [97]), (.str []), .nilsl] 94 false)),
  (571, (.cells [(.str [116]), (.int .i64 (.ofNat 10)), (.int .i64 (.ofNat 0)), (.int .i64 (.ofNat 1)), (.sl 569 0 1 1 false)] 113 false)),
  (569, (.cells [(.str [112])] 9 false)),
  (9, blk9), (11, blk11)]
noncomputable def knowA : Table := knows 87 argA listA (.int .i64 (.ofNat 0))
noncomputable def knowB : Table := knows 87 argB listB (.int .i64 (.ofNat 0))
/-- An int of 32 bits. -/
noncomputable def isI32 : AV → Bool
  | .int .i64 n => leI (-2147483648) n && leI n 2147483647
  | _ => false
noncomputable def allI32 : List AV → Bool
  | [] => true
  | v :: l => isI32 v && allI32 l
/-- image.Check of an image of such ints. -/
noncomputable def know22 : Table := fun f args H =>
  match Nat.beq f 22 with
  | true => match args with
    | [.agg cs] => match Nat.beq cs.length 192 && allI32 cs with
      | true => some (.int .i64 (.ofNat 0), H)
      | false => none
    | _ => none
  | false => none
noncomputable def zeros : List AV := List.replicate 192 (.int .i64 (.ofNat 0))
noncomputable def imageB : List AV := List.replicate 64 (.int .i64 (.ofNat 0)) ++ .int .i64 (.ofNat 1) :: List.replicate 127 (.int .i64 (.ofNat 0))
noncomputable def putB : List AV := [.int .i64 (.ofNat 2), .int .i64 (.ofNat 0), .int .i64 (.ofNat 1)]
noncomputable def knowD : Table := knows 58 [.agg zeros, .agg zeros] [] (.tup [.nilsl, .int .i64 (.ofNat 0)])
noncomputable def knowE : Table := knowsNew 58 [.agg zeros, .agg imageB] [] putB 67 1 1 (.ofNat 0)
noncomputable def knowAll : Table := know22.or (knowA.or (knowB.or (knowD.or knowE)))
noncomputable def noTab : Table := fun _ _ _ => none
end Go.Proofs.YtmaknbbijgihgaaGreatDoor
namespace Go.Proofs.YtmaknbbijgihgaaGreatDoor
open Go.Shadow
set_option maxRecDepth 1000000 in
theorem runA : gives (.int .i64 (.ofNat 0)) ((run Tryz.prog noTab 100000).call 87 argA (laid 32 listA)) = true := by kernel_rfl
set_option maxRecDepth 1000000 in
theorem runB : gives (.int .i64 (.ofNat 0)) ((run Tryz.prog noTab 100000).call 87 argB (laid 580 listB)) = true := by kernel_rfl
end Go.Proofs.YtmaknbbijgihgaaGreatDoor
