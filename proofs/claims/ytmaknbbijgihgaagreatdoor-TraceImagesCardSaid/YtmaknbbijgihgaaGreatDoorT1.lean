/- Proved here: the tie of the nine listed variables to the program's text: words and kinds. Conditions: those of the row Rows.traceImagesRow (its listed variables as laid); none else. -/
import Derived.Test.YtmaknbbijgihgaaGreatDoorProg
import Derived.LaidOnce
import Derived.LaidSub
import Derived.KernelRfl
set_option linter.all false
namespace Go.Proofs.YtmaknbbijgihgaaGreatDoor
open Go
def laidT : List (String × DataW Unit) := [
  ("math/bits.deBruijn32tab", .agg [.lit (.int .u8 0), .lit (.int .u8 1), .lit (.int .u8 28), .lit (.int .u8 2), .lit (.int .u8 29), .lit (.int .u8 14), .lit (.int .u8 24), .lit (.int .u8 3), .lit (.int .u8 30), .lit (.int .u8 22), .lit (.int .u8 20), .lit (.int .u8 15), .lit (.int .u8 25), .lit (.int .u8 17), .lit (.int .u8 4), .lit (.int .u8 8), .lit (.int .u8 31), .lit (.int .u8 27), .lit (.int .u8 13), .lit (.int .u8 23), .lit (.int .u8 21), .lit (.int .u8 19), .lit (.int .u8 16), .lit (.int .u8 7), .lit (.int .u8 26), .lit (.int .u8 12), .lit (.int .u8 18), .lit (.int .u8 6), .lit (.int .u8 11), .lit (.int .u8 5), .lit (.int .u8 10), .lit (.int .u8 9)]),
  ("math/bits.deBruijn64tab", .agg [.lit (.int .u8 0), .lit (.int .u8 1), .lit (.int .u8 56), .lit (.int .u8 2), .lit (.int .u8 57), .lit (.int .u8 49), .lit (.int .u8 28), .lit (.int .u8 3), .lit (.int .u8 61), .lit (.int .u8 58), .lit (.int .u8 42), .lit (.int .u8 50), .lit (.int .u8 38), .lit (.int .u8 29), .lit (.int .u8 17), .lit (.int .u8 4), .lit (.int .u8 62), .lit (.int .u8 47), .lit (.int .u8 59), .lit (.int .u8 36), .lit (.int .u8 45), .lit (.int .u8 43), .lit (.int .u8 51), .lit (.int .u8 22), .lit (.int .u8 53), .lit (.int .u8 39), .lit (.int .u8 33), .lit (.int .u8 30), .lit (.int .u8 24), .lit (.int .u8 18), .lit (.int .u8 12), .lit (.int .u8 5), .lit (.int .u8 63), .lit (.int .u8 55), .lit (.int .u8 48), .lit (.int .u8 27), .lit (.int .u8 60), .lit (.int .u8 41), .lit (.int .u8 37), .lit (.int .u8 16), .lit (.int .u8 46), .lit (.int .u8 35), .lit (.int .u8 44), .lit (.int .u8 21), .lit (.int .u8 52), .lit (.int .u8 32), .lit (.int .u8 23), .lit (.int .u8 11), .lit (.int .u8 54), .lit (.int .u8 26), .lit (.int .u8 40), .lit (.int .u8 15), .lit (.int .u8 34), .lit (.int .u8 20), .lit (.int .u8 31), .lit (.int .u8 10), .lit (.int .u8 25), .lit (.int .u8 14), .lit (.int .u8 19), .lit (.int .u8 9), .lit (.int .u8 13), .lit (.int .u8 8), .lit (.int .u8 7), .lit (.int .u8 6)]),
  ("internal/strconv.uint64pow10", .agg [.lit (.int .u64 1), .lit (.int .u64 10), .lit (.int .u64 100), .lit (.int .u64 1000), .lit (.int .u64 10000), .lit (.int .u64 100000), .lit (.int .u64 1000000), .lit (.int .u64 10000000), .lit (.int .u64 100000000), .lit (.int .u64 1000000000), .lit (.int .u64 10000000000), .lit (.int .u64 100000000000), .lit (.int .u64 1000000000000), .lit (.int .u64 10000000000000), .lit (.int .u64 100000000000000), .lit (.int .u64 1000000000000000), .lit (.int .u64 10000000000000000), .lit (.int .u64 100000000000000000), .lit (.int .u64 1000000000000000000), .lit (.int .u64 10000000000000000000)]),
  ("strconv.ErrRange", .iface "*errors.errorString" (.ptr (.agg [.lit (.string [118, 97, 108, 117, 101, 32, 111, 117, 116, 32, 111, 102, 32, 114, 97, 110, 103, 101])]))),
  ("strconv.ErrSyntax", .iface "*errors.errorString" (.ptr (.agg [.lit (.string [105, 110, 118, 97, 108, 105, 100, 32, 115, 121, 110, 116, 97, 120])]))),
  ("winch/ast.shapes", .map [(.int .i64 1, .agg [.lit (.bool true), .lit (.int .i64 1), .lit (.int .i64 1), .lit (.bool false), .lit (.bool false)]), (.int .i64 2, .agg [.lit (.bool true), .lit (.int .i64 0), .lit (.int .i64 501), .lit (.bool false), .lit (.bool false)]), (.int .i64 3, .agg [.lit (.bool false), .lit (.int .i64 1), .lit (.int .i64 1), .lit (.bool true), .lit (.bool true)]), (.int .i64 4, .agg [.lit (.bool false), .lit (.int .i64 1), .lit (.int .i64 1), .lit (.bool false), .lit (.bool true)]), (.int .i64 5, .agg [.lit (.bool true), .lit (.int .i64 2), .lit (.int .i64 2), .lit (.bool true), .lit (.bool false)]), (.int .i64 6, .agg [.lit (.bool false), .lit (.int .i64 1), .lit (.int .i64 1), .lit (.bool true), .lit (.bool false)]), (.int .i64 7, .agg [.lit (.bool false), .lit (.int .i64 1), .lit (.int .i64 1), .lit (.bool true), .lit (.bool false)]), (.int .i64 8, .agg [.lit (.bool false), .lit (.int .i64 0), .lit (.int .i64 0), .lit (.bool false), .lit (.bool false)]), (.int .i64 9, .agg [.lit (.bool false), .lit (.int .i64 0), .lit (.int .i64 0), .lit (.bool false), .lit (.bool false)])]),
  ("winch/list.shapes", .map [(.int .i64 1, .agg [.lit (.bool false), .lit (.bool true), .lit (.bool true), .lit (.bool false)]), (.int .i64 2, .agg [.lit (.bool true), .lit (.bool false), .lit (.bool true), .lit (.bool false)]), (.int .i64 3, .agg [.lit (.bool true), .lit (.bool false), .lit (.bool false), .lit (.bool false)]), (.int .i64 4, .agg [.lit (.bool true), .lit (.bool false), .lit (.bool false), .lit (.bool false)]), (.int .i64 5, .agg [.lit (.bool false), .lit (.bool true), .lit (.bool true), .lit (.bool false)]), (.int .i64 6, .agg [.lit (.bool false), .lit (.bool false), .lit (.bool false), .lit (.bool false)]), (.int .i64 7, .agg [.lit (.bool false), .lit (.bool false), .lit (.bool false), .lit (.bool false)]), (.int .i64 8, .agg [.lit (.bool true), .lit (.bool false), .lit (.bool false), .lit (.bool true)]), (.int .i64 9, .agg [.lit (.bool true), .lit (.bool false), .lit (.bool false), .lit (.bool true)]), (.int .i64 10, .agg [.lit (.bool false), .lit (.bool false), .lit (.bool false), .lit (.bool true)])]),
  ("winch/code.ops", .map [(.int .i64 1, .agg [.lit (.string [99, 111, 110, 115, 116]), .lit (.int .i64 0), .lit (.int .i64 1), .lit (.bool true), .lit (.bool false)]), (.int .i64 2, .agg [.lit (.string [108, 111, 97, 100]), .lit (.int .i64 0), .lit (.int .i64 1), .lit (.bool true), .lit (.bool false)]), (.int .i64 3, .agg [.lit (.string [115, 116, 111, 114, 101]), .lit (.int .i64 1), .lit (.int .i64 0), .lit (.bool true), .lit (.bool false)]), (.int .i64 4, .agg [.lit (.string [108, 111, 97, 100, 120]), .lit (.int .i64 1), .lit (.int .i64 1), .lit (.bool true), .lit (.bool true)]), (.int .i64 5, .agg [.lit (.string [115, 116, 111, 114, 101, 120]), .lit (.int .i64 2), .lit (.int .i64 0), .lit (.bool true), .lit (.bool true)]), (.int .i64 6, .agg [.lit (.string [117, 110, 97, 114, 121]), .lit (.int .i64 1), .lit (.int .i64 1), .lit (.bool true), .lit (.bool false)]), (.int .i64 7, .agg [.lit (.string [98, 105, 110, 97, 114, 121]), .lit (.int .i64 2), .lit (.int .i64 1), .lit (.bool true), .lit (.bool false)]), (.int .i64 8, .agg [.lit (.string [99, 97, 108, 108]), .lit (.int .i64 0), .lit (.int .i64 1), .lit (.bool true), .lit (.bool false)]), (.int .i64 9, .agg [.lit (.string [115, 116, 100]), .lit (.int .i64 0), .lit (.int .i64 1), .lit (.bool true), .lit (.bool false)]), (.int .i64 10, .agg [.lit (.string [112, 97, 114, 116]), .lit (.int .i64 0), .lit (.int .i64 0), .lit (.bool true), .lit (.bool true)]), (.int .i64 11, .agg [.lit (.string [117, 110, 105, 116]), .lit (.int .i64 0), .lit (.int .i64 0), .lit (.bool true), .lit (.bool true)]), (.int .i64 12, .agg [.lit (.string [106, 117, 109, 112]), .lit (.int .i64 0), .lit (.int .i64 0), .lit (.bool true), .lit (.bool false)]), (.int .i64 13, .agg [.lit (.string [102, 97, 108, 115, 101]), .lit (.int .i64 1), .lit (.int .i64 0), .lit (.bool true), .lit (.bool false)]), (.int .i64 14, .agg [.lit (.string [114, 101, 116, 117, 114, 110]), .lit (.int .i64 0), .lit (.int .i64 0), .lit (.bool false), .lit (.bool false)]), (.int .i64 15, .agg [.lit (.string [112, 105, 99, 107]), .lit (.int .i64 0), .lit (.int .i64 1), .lit (.bool true), .lit (.bool false)]), (.int .i64 16, .agg [.lit (.string [112, 117, 116]), .lit (.int .i64 1), .lit (.int .i64 0), .lit (.bool true), .lit (.bool false)]), (.int .i64 17, .agg [.lit (.string [100, 114, 111, 112]), .lit (.int .i64 1), .lit (.int .i64 0), .lit (.bool false), .lit (.bool false)]), (.int .i64 18, .agg [.lit (.string [110, 111, 119]), .lit (.int .i64 0), .lit (.int .i64 1), .lit (.bool false), .lit (.bool false)])]),
  ("winch/trace.names", .agg [.lit (.string []), .lit (.string [106, 111, 98]), .lit (.string [115, 116, 97, 114, 116]), .lit (.string [115, 116, 111, 112]), .lit (.string [112, 111, 119, 101, 114]), .lit (.string [102, 111, 114, 99, 101]), .lit (.string [102, 114, 101, 101]), .lit (.string [99, 104, 97, 110, 103, 101])])]
set_option maxRecDepth 1000000
def doorN : List (List Nat) := [
  [103, 111, 115, 101, 109, 46, 99, 117, 116, 46, 118, 97, 114, 115, 32, 104, 111, 108, 100, 115, 32, 105, 110, 105, 116, 105, 97, 108, 105, 115, 101, 114, 115, 32, 97, 108, 111, 110, 101, 59, 32, 115, 101, 101, 32, 116, 104, 101, 32, 109, 97, 110, 105, 102, 101, 115, 116, 39, 115, 32, 114, 111, 119, 32, 99, 117, 116, 118, 97, 114, 115, 119, 111, 114, 100, 32, 40, 108, 111, 111, 107, 32, 49, 49, 44, 32, 116, 101, 115, 116, 32, 102, 105, 108, 101, 115, 32, 116, 111, 111, 41],
  [105, 110, 116, 101, 114, 110, 97, 108, 47, 115, 116, 114, 99, 111, 110, 118, 46, 117, 105, 110, 116, 54, 52, 112, 111, 119, 49, 48, 32, 105, 115, 32, 108, 97, 105, 100, 32, 98, 121, 32, 105, 116, 115, 32, 111, 119, 110, 32, 105, 110, 105, 116, 105, 97, 108, 105, 115, 101, 114, 44, 32, 112, 108, 97, 105, 110, 32, 100, 97, 116, 97, 32, 40, 108, 111, 111, 107, 32, 49, 49, 41],
  [109, 97, 116, 104, 47, 98, 105, 116, 115, 46, 100, 101, 66, 114, 117, 105, 106, 110, 51, 50, 116, 97, 98, 32, 105, 115, 32, 108, 97, 105, 100, 32, 98, 121, 32, 105, 116, 115, 32, 111, 119, 110, 32, 105, 110, 105, 116, 105, 97, 108, 105, 115, 101, 114, 44, 32, 112, 108, 97, 105, 110, 32, 100, 97, 116, 97, 32, 40, 108, 111, 111, 107, 32, 49, 49, 41],
  [109, 97, 116, 104, 47, 98, 105, 116, 115, 46, 100, 101, 66, 114, 117, 105, 106, 110, 54, 52, 116, 97, 98, 32, 105, 115, 32, 108, 97, 105, 100, 32, 98, 121, 32, 105, 116, 115, 32, 111, 119, 110, 32, 105, 110, 105, 116, 105, 97, 108, 105, 115, 101, 114, 44, 32, 112, 108, 97, 105, 110, 32, 100, 97, 116, 97, 32, 40, 108, 111, 111, 107, 32, 49, 49, 41],
  [115, 116, 114, 99, 111, 110, 118, 46, 69, 114, 114, 82, 97, 110, 103, 101, 32, 105, 115, 32, 108, 97, 105, 100, 32, 98, 121, 32, 105, 116, 115, 32, 111, 119, 110, 32, 99, 97, 108, 108, 32, 111, 102, 32, 101, 114, 114, 111, 114, 115, 46, 78, 101, 119, 32, 111, 110, 32, 111, 110, 101, 32, 108, 105, 116, 101, 114, 97, 108, 32, 40, 108, 111, 111, 107, 32, 49, 49, 41],
  [115, 116, 114, 99, 111, 110, 118, 46, 69, 114, 114, 83, 121, 110, 116, 97, 120, 32, 105, 115, 32, 108, 97, 105, 100, 32, 98, 121, 32, 105, 116, 115, 32, 111, 119, 110, 32, 99, 97, 108, 108, 32, 111, 102, 32, 101, 114, 114, 111, 114, 115, 46, 78, 101, 119, 32, 111, 110, 32, 111, 110, 101, 32, 108, 105, 116, 101, 114, 97, 108, 32, 40, 108, 111, 111, 107, 32, 49, 49, 41],
  [116, 104, 101, 32, 108, 111, 111, 107, 32, 111, 102, 32, 103, 111, 115, 101, 109, 46, 99, 117, 116, 46, 118, 97, 114, 115, 32, 119, 101, 110, 116, 32, 111, 118, 101, 114, 32, 116, 104, 101, 32, 102, 111, 108, 100, 101, 114, 32, 116, 104, 97, 116, 32, 116, 104, 101, 32, 99, 97, 108, 108, 101, 114, 32, 110, 97, 109, 101, 100, 32, 97, 115, 32, 116, 104, 101, 32, 114, 101, 112, 111, 115, 105, 116, 111, 114, 121, 39, 115, 32, 114, 111, 111, 116, 32, 40, 108, 111, 111, 107, 32, 49, 49, 41],
  [119, 105, 110, 99, 104, 47, 97, 115, 116, 46, 115, 104, 97, 112, 101, 115, 32, 105, 115, 32, 108, 97, 105, 100, 32, 98, 121, 32, 105, 116, 115, 32, 111, 119, 110, 32, 109, 97, 112, 32, 108, 105, 116, 101, 114, 97, 108, 115, 44, 32, 97, 110, 32, 101, 110, 116, 114, 121, 32, 97, 32, 115, 116, 97, 116, 101, 109, 101, 110, 116, 32, 40, 109, 97, 112, 32, 49, 41],
  [119, 105, 110, 99, 104, 47, 99, 111, 100, 101, 46, 111, 112, 115, 32, 105, 115, 32, 108, 97, 105, 100, 32, 98, 121, 32, 105, 116, 115, 32, 111, 119, 110, 32, 109, 97, 112, 32, 108, 105, 116, 101, 114, 97, 108, 115, 44, 32, 97, 110, 32, 101, 110, 116, 114, 121, 32, 97, 32, 115, 116, 97, 116, 101, 109, 101, 110, 116, 32, 40, 109, 97, 112, 32, 49, 41],
  [119, 105, 110, 99, 104, 47, 99, 111, 100, 101, 46, 111, 112, 115, 32, 119, 97, 115, 32, 112, 97, 115, 115, 101, 100, 32, 98, 121, 32, 116, 104, 101, 32, 100, 101, 101, 112, 32, 108, 111, 111, 107, 32, 40, 100, 101, 101, 112, 32, 49, 41],
  [119, 105, 110, 99, 104, 47, 108, 105, 115, 116, 46, 115, 104, 97, 112, 101, 115, 32, 105, 115, 32, 108, 97, 105, 100, 32, 98, 121, 32, 105, 116, 115, 32, 111, 119, 110, 32, 109, 97, 112, 32, 108, 105, 116, 101, 114, 97, 108, 115, 44, 32, 97, 110, 32, 101, 110, 116, 114, 121, 32, 97, 32, 115, 116, 97, 116, 101, 109, 101, 110, 116, 32, 40, 109, 97, 112, 32, 49, 41],
  [119, 105, 110, 99, 104, 47, 116, 114, 97, 99, 101, 46, 110, 97, 109, 101, 115, 32, 105, 115, 32, 108, 97, 105, 100, 32, 98, 121, 32, 105, 116, 115, 32, 111, 119, 110, 32, 105, 110, 105, 116, 105, 97, 108, 105, 115, 101, 114, 44, 32, 112, 108, 97, 105, 110, 32, 100, 97, 116, 97, 32, 98, 121, 32, 116, 104, 101, 32, 119, 105, 100, 101, 114, 32, 108, 111, 111, 107, 32, 40, 100, 97, 116, 97, 32, 50, 41],
  [119, 105, 110, 99, 104, 47, 116, 114, 97, 99, 101, 46, 110, 97, 109, 101, 115, 32, 119, 97, 115, 32, 112, 97, 115, 115, 101, 100, 32, 98, 121, 32, 116, 104, 101, 32, 100, 101, 101, 112, 32, 108, 111, 111, 107, 32, 40, 100, 101, 101, 112, 32, 49, 41]]
theorem doorB : Tryz.prog.doorBytes = doorN.map (fun l => l.map Nat.toUInt8) := by kernel_rfl

/-- What a variable's words say, off the list of words. -/
def wordedIn (D : List (List UInt8)) (v tail : String) : Bool := (D.filterMap (bytesBehind v.toUTF8.data.toList)).any fun r => bytesBehind tail.toUTF8.data.toList r == some []
def kindBaseIn (D : List (List UInt8)) (v : String) : Option LaidKind :=
  match [LaidKind.data, .sentinel, .listed, .handle, .mapped, .funcs, .called, .wider, .zero].filter fun k => wordedIn D v (kindTail k) with
  | [.listed] => if wordedIn D v deepTailLater then some .listed else none
  | [k] => some k
  | _ => none
def kindIn (D : List (List UInt8)) (v : String) : Option LaidKind :=
  match kindBaseIn D v with
  | some .mapped => some (if wordedIn D v deepMoreTail then .mappedDeep else .mapped)
  | some .funcs => some (if wordedIn D v deepMoreTail then .funcsDeep else .funcs)
  | some .called => some (if wordedIn D v deepMoreTail then .calledDeep else .called)
  | some .wider => some (if wordedIn D v deepMoreTail then .widerDeep else .wider)
  | some .zero => some (if wordedIn D v deepMoreTail then .zeroDeep else .zero)
  | k => k
theorem kindIn_eq (P : Program) (v : String) : P.kindOfLater v = kindIn P.doorBytes v := rfl
theorem kindsIn : laidT.map (fun x => kindIn (doorN.map fun l => l.map Nat.toUInt8) x.1) = ([.data, .data, .data, .sentinel, .sentinel, .mapped, .mapped, .mappedDeep, .widerDeep] : List LaidKind).map some := by kernel_rfl
theorem tw4 : laidT.map (fun x => Tryz.prog.kindOfLater x.1) = ([.data, .data, .data, .sentinel, .sentinel, .mapped, .mapped, .mappedDeep, .widerDeep] : List LaidKind).map some := by
  rw [show (fun x : String × DataW Unit => Tryz.prog.kindOfLater x.1) = fun x => kindIn (doorN.map fun l => l.map Nat.toUInt8) x.1 from funext fun x => by rw [kindIn_eq, doorB]]
  exact kindsIn
theorem door_of_worded {P : Program} {word : String} (h : P.worded word = true) : word.toUTF8.data.toList ∈ P.funcs.toList.filterMap fun fn => if fn.body.isNone then some fn.name.toUTF8.data.toList else none := by
  unfold Program.worded at h
  rw [← Array.any_toList] at h
  obtain ⟨fn, h1, h2⟩ := List.any_eq_true.1 h
  simp only [Bool.and_eq_true, beq_iff_eq] at h2
  refine List.mem_filterMap.2 ⟨fn, h1, ?_⟩
  rw [if_pos h2.1, h2.2]
theorem worded_at {P : Program} {i : Nat} {fn : Func} {word : String} (h : P.funcs[i]? = some fn) (hb : fn.body.isNone = true) (hn : fn.name = word) : P.worded word = true := by
  unfold Program.worded
  rw [← Array.any_toList]
  refine List.any_eq_true.2 ⟨fn, by rw [← Array.mem_def]; exact Array.mem_of_getElem? h, ?_⟩
  rw [hb, hn]; simp
theorem not_worded {P : Program} {word : String} {D : List (List UInt8)} {r : List UInt8} (hD : P.doorBytes = D) (hr : bytesBehind "var's door: ".toUTF8.data.toList word.toUTF8.data.toList = some r) (hn : (D.any fun d => d == r) = false) : P.worded word = false := by
  cases h : P.worded word with
  | false => rfl
  | true =>
    have h1 := door_of_worded h
    have h2 : r ∈ P.doorBytes := by
      unfold Program.doorBytes
      exact List.mem_filterMap.2 ⟨_, h1, hr⟩
    rw [hD] at h2
    have : (D.any fun d => d == r) = true := List.any_eq_true.2 ⟨r, h2, by simp⟩
    rw [hn] at this; cases this
theorem tw2 : Tryz.prog.worded (varsWordLater !true) = false := by
  cases hr : bytesBehind "var's door: ".toUTF8.data.toList (varsWordLater !true).toUTF8.data.toList with
  | none => have : (bytesBehind "var's door: ".toUTF8.data.toList (varsWordLater !true).toUTF8.data.toList).isSome = true := by kernel_rfl
            rw [hr] at this; cases this
  | some r =>
    refine not_worded doorB hr ?_
    have h : (match bytesBehind "var's door: ".toUTF8.data.toList (varsWordLater !true).toUTF8.data.toList with | some r => (doorN.map fun l => l.map Nat.toUInt8).any fun d => d == r | none => true) = false := by kernel_rfl
    rw [hr] at h
    exact h
theorem tw1 : Tryz.prog.worded (varsWordLater true) = true := worded_at Tryz.func773 rfl rfl
theorem tw3 : Tryz.prog.worded rootWordLater = true := worded_at Tryz.func779 rfl rfl
theorem tw5 : Tryz.prog.funcNamed "gosem.cut.vars" = some 786 := by kernel_rfl
theorem tw5b : (Tryz.prog.funcNamed "gosem.cut.vars").isSome = true := by rw [tw5]; rfl
theorem tid : varsId Tryz.prog = 786 := by unfold varsId; rw [tw5]; rfl
end Go.Proofs.YtmaknbbijgihgaaGreatDoor
