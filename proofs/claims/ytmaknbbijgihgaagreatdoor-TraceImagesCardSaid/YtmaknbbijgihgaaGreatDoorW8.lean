/- Proved here: contracts: the first position at which two lists differ; 32-bit values. Conditions: those of the row Rows.traceImagesRow (its listed variables as laid); none else. -/
import Derived.Test.YtmaknbbijgihgaaGreatDoorW6
import Derived.Deep.QuietTactic
import Derived.BigQuiet
import Derived.StillTailTactics
import Derived.Test.YtmaknbbijgihgaaGreatDoorW7
import Derived.Test.YtmaknbbijgihgaaGreatDoorW5
import Derived.Great.BuildSlice
import Derived.Laws.CopyOwn
import Derived.Below
import Derived.Laws.OwnMore
set_option linter.all false
namespace Go.Proofs.YtmaknbbijgihgaaGreatDoor
open Go.RowKit
/-- The first position at which two lists differ. -/
def firstD : List ED → List ED → Nat → Int
  | [], [], _ => -1
  | [], _ :: _, k => k
  | _ :: _, [], k => k
  | e :: es, f :: fs, k => if e = f then firstD es fs (k + 1) else k
theorem firstD_step {es fs : List ED} {k : Nat} (h : k < es.length) (h' : k < fs.length) (he : es[k] = fs[k]) : firstD (es.drop k) (fs.drop k) k = firstD (es.drop (k + 1)) (fs.drop (k + 1)) (k + 1) := by
  rw [List.drop_eq_getElem_cons h, List.drop_eq_getElem_cons h']
  show (if es[k] = fs[k] then _ else _) = _
  rw [if_pos he]
theorem firstD_stop {es fs : List ED} {k : Nat} (h : k < es.length) (h' : k < fs.length) (he : es[k] ≠ fs[k]) : firstD (es.drop k) (fs.drop k) k = k := by
  rw [List.drop_eq_getElem_cons h, List.drop_eq_getElem_cons h']
  show (if es[k] = fs[k] then _ else _) = _
  rw [if_neg he]
theorem firstD_both {es fs : List ED} {k : Nat} (h : k = es.length) (h' : k = fs.length) : firstD (es.drop k) (fs.drop k) k = -1 := by
  rw [List.drop_eq_nil_of_le (by omega), List.drop_eq_nil_of_le (by omega)]; rfl
theorem firstD_left {es fs : List ED} {k : Nat} (h : k = es.length) (h' : k < fs.length) : firstD (es.drop k) (fs.drop k) k = k := by
  rw [List.drop_eq_nil_of_le (by omega), List.drop_eq_getElem_cons h']; rfl
theorem firstD_right {es fs : List ED} {k : Nat} (h : k < es.length) (h' : k = fs.length) : firstD (es.drop k) (fs.drop k) k = k := by
  rw [List.drop_eq_getElem_cons h, List.drop_eq_nil_of_le (show fs.length ≤ k by omega)]; rfl
def FirstPost (es fs : List ED) (w : World) (e : Ending) (w' : World) : Prop := e = .returned (.int .i64 (firstD es fs 0)) ∧ Below w.heap.size w w'
set_option maxRecDepth 100000 in
set_option maxHeartbeats 2000000 in
theorem rfirst_any {es fs : List ED} {v u : Value} {w : World} (h : EntsAt w v es) (h' : EntsAt w u fs) :
    Calls Tryz.prog 6 #[v, u] w (FirstPost es fs w) := by
  obtain ⟨ao, b, off, cap, rfl, ha, hc, hl⟩ := h
  obtain ⟨ao', b', off', cap', rfl, ha', hc', hl'⟩ := h'
  have HA := Lib.hid ha; clear ha
  have HA' := Lib.hid ha'; clear ha'
  unfold maxLen at hl hl'
  go_enter Tryz.func6, Tryz.ntmps6
  go_wp2
  go_loopw [5] (fun i wr => ∃ k : Nat, k ≤ es.length ∧ k ≤ fs.length ∧ i = .int .i64 k ∧ Hid (firstD es fs 0 = firstD (es.drop k) (fs.drop k) k) ∧ Below w.heap.size w wr) (fun i _ => es.length - (intOf i).toNat)
  case atStart => exact ⟨0, Nat.zero_le _, Nat.zero_le _, rfl, Lib.hid (by simp), Below.refl _ _⟩
  case round =>
    obtain ⟨k, hk, hk', rfl, HT, hb⟩ := hrel
    by_cases hlt : k < es.length
    · by_cases hlt' : k < fs.length
      · obtain ⟨v1, v2, p1, p2, c0, c1, c2, c3, c4, c5, c6, c7, c8, c9, c10, c11⟩ := hc.below hb (Nat.le_refl _) k hlt
        obtain ⟨u1, u2', q1, q2, d0, d1, d2, d3, d4, d5, d6, d7, d8, d9, d10, d11⟩ := hc'.below hb (Nat.le_refl _) k hlt'
        have ha := HA.out (ne_nil_of hlt)
        have ha' := HA'.out (ne_nil_of hlt')
        clear HA HA'
        subst ha ha'
        have HC := Lib.hid (fun (W : World) (hW : Below wr.heap.size wr W) => sameEntry_any (w := W) (p1.below hW (Nat.le_refl _)) (p2.below hW (Nat.le_refl _)) (q1.below hW (Nat.le_refl _)) (q2.below hW (Nat.le_refl _)))
        rcases hp : decide (es[k] = fs[k]) with _ | _
        · go_wp2
          go_still_tail 8, (by kernel_rfl)
          go_wp2_with (first | (go_at_call 13; refine (HC.out _ (Below.refl _ _).drew).mono ?_; rintro e' w1 ⟨rfl, hb2⟩))
          go_ret
          exact ⟨by rw [HT.out, firstD_stop hlt hlt' (of_decide_eq_false hp)]; try rfl, hb.drew.trans (hb2.mono hb.size)⟩
        · go_wp2
          go_still_tail 8, (by kernel_rfl)
          go_wp2_with (first | (go_at_call 13; refine (HC.out _ (Below.refl _ _).drew).mono ?_; rintro e' w1 ⟨rfl, hb2⟩))
          go_roundw
          case rel => exact ⟨k + 1, by omega, by omega, by go_num, Lib.hid (by rw [HT.out, firstD_step hlt hlt' (of_decide_eq_true hp)]), hb.drew.trans (hb2.mono hb.size)⟩
          case measure => simp [intOf]; omega
      · go_wp2
        go_ret
        exact ⟨by rw [HT.out, firstD_right hlt (by omega)]; show Ending.returned (.int .i64 (fs.length : Int)) = _; rw [show fs.length = k by omega], hb⟩
    · have hke : k = es.length := by omega
      by_cases hlen : k = fs.length
      · have hb0 : ((es.length : Int) == (fs.length : Int)) = true := by simp; omega
        have HE := Lib.hid hke; clear hke
        have HF := Lib.hid hlen; clear hlen
        go_wp2
        go_ret
        exact ⟨by rw [HT.out, firstD_both HE.out HF.out]; try rfl, hb⟩
      · have hb0 : ((es.length : Int) == (fs.length : Int)) = false := by simp; omega
        have HE := Lib.hid hke; clear hke
        go_wp2
        go_ret
        exact ⟨by rw [HT.out, firstD_left HE.out (by omega)]; show Ending.returned (.int .i64 (es.length : Int)) = _; rw [HE.out], hb⟩
end Go.Proofs.YtmaknbbijgihgaaGreatDoor
namespace Go.Proofs.YtmaknbbijgihgaaGreatDoor
open Go.RowKit
set_option maxRecDepth 100000 in
set_option maxHeartbeats 2000000 in
theorem first_any {es fs : List ED} {v u : Value} {w : World} (h : EntsAt w v es) (h' : EntsAt w u fs) :
    Calls Tryz.prog 5 #[v, u] w (FirstPost es fs w) := by
  obtain ⟨ao, b, off, cap, rfl, ha, hc, hl⟩ := h
  obtain ⟨ao', b', off', cap', rfl, ha', hc', hl'⟩ := h'
  have HA := Lib.hid ha; clear ha
  have HA' := Lib.hid ha'; clear ha'
  unfold maxLen at hl hl'
  by_cases hmin : es.length ≤ fs.length
  · skip
    go_enter Tryz.func5, Tryz.ntmps5
    go_wp2
    go_loopw [13] (fun i wr => ∃ k : Nat, k ≤ es.length ∧ k ≤ fs.length ∧ i = .int .i64 k ∧ Hid (firstD es fs 0 = firstD (es.drop k) (fs.drop k) k) ∧ Below w.heap.size w wr) (fun i _ => es.length - (intOf i).toNat)
    case atStart => exact ⟨0, Nat.zero_le _, Nat.zero_le _, rfl, Lib.hid (by simp), Below.refl _ _⟩
    case round =>
      obtain ⟨k, hk, hk', rfl, HT, hb⟩ := hrel
      by_cases hb1 : k < es.length
      · have hlt : k < es.length := by omega
        have hlt' : k < fs.length := by omega
        obtain ⟨v1, v2, p1, p2, c0, c1, c2, c3, c4, c5, c6, c7, c8, c9, c10, c11⟩ := hc.below hb (Nat.le_refl _) k hlt
        obtain ⟨u1, u2', q1, q2, d0, d1, d2, d3, d4, d5, d6, d7, d8, d9, d10, d11⟩ := hc'.below hb (Nat.le_refl _) k hlt'
        have ha := HA.out (ne_nil_of hlt)
        have ha' := HA'.out (ne_nil_of hlt')
        clear HA HA'
        subst ha ha'
        have HC := Lib.hid (fun (W : World) (hW : Below wr.heap.size wr W) => same_any (w := W) (p1.below hW (Nat.le_refl _)) (p2.below hW (Nat.le_refl _)) (q1.below hW (Nat.le_refl _)) (q2.below hW (Nat.le_refl _)))
        rcases hp : decide (es[k] = fs[k]) with _ | _
        · go_wp2
          go_still_tail 8, (by kernel_rfl)
          go_wp2_with (first | (go_at_call 12; refine (HC.out _ (Below.refl _ _).drew).mono ?_; rintro e' w1 ⟨rfl, hb2⟩))
          go_ret
          exact ⟨by rw [HT.out, firstD_stop hlt hlt' (of_decide_eq_false hp)]; try rfl, hb.drew.trans (hb2.mono hb.size)⟩
        · go_wp2
          go_still_tail 8, (by kernel_rfl)
          go_wp2_with (first | (go_at_call 12; refine (HC.out _ (Below.refl _ _).drew).mono ?_; rintro e' w1 ⟨rfl, hb2⟩))
          go_roundw
          case rel => exact ⟨k + 1, by omega, by omega, by go_num, Lib.hid (by rw [HT.out, firstD_step hlt hlt' (of_decide_eq_true hp)]), hb.drew.trans (hb2.mono hb.size)⟩
          case measure => simp [intOf]; omega
      · have hke : k = es.length := by omega
        by_cases hlen : k = fs.length
        · have hb0 : ((es.length : Int) == (fs.length : Int)) = true := by simp; omega
          have HE := Lib.hid hke; clear hke
          have HF := Lib.hid hlen; clear hlen
          go_wp2
          go_ret
          exact ⟨by rw [HT.out, firstD_both HE.out HF.out]; try rfl, hb⟩
        · have hb0 : ((es.length : Int) == (fs.length : Int)) = false := by simp; omega
          have HE := Lib.hid hke; clear hke
          go_wp2
          go_ret
          exact ⟨by rw [HT.out, firstD_left HE.out (by omega)]; show Ending.returned (.int .i64 (es.length : Int)) = _; rw [HE.out], hb⟩
  · skip
    go_enter Tryz.func5, Tryz.ntmps5
    go_wp2
    go_loopw [13] (fun i wr => ∃ k : Nat, k ≤ es.length ∧ k ≤ fs.length ∧ i = .int .i64 k ∧ Hid (firstD es fs 0 = firstD (es.drop k) (fs.drop k) k) ∧ Below w.heap.size w wr) (fun i _ => fs.length - (intOf i).toNat)
    case atStart => exact ⟨0, Nat.zero_le _, Nat.zero_le _, rfl, Lib.hid (by simp), Below.refl _ _⟩
    case round =>
      obtain ⟨k, hk, hk', rfl, HT, hb⟩ := hrel
      by_cases hb1 : k < fs.length
      · have hlt : k < es.length := by omega
        have hlt' : k < fs.length := by omega
        obtain ⟨v1, v2, p1, p2, c0, c1, c2, c3, c4, c5, c6, c7, c8, c9, c10, c11⟩ := hc.below hb (Nat.le_refl _) k hlt
        obtain ⟨u1, u2', q1, q2, d0, d1, d2, d3, d4, d5, d6, d7, d8, d9, d10, d11⟩ := hc'.below hb (Nat.le_refl _) k hlt'
        have ha := HA.out (ne_nil_of hlt)
        have ha' := HA'.out (ne_nil_of hlt')
        clear HA HA'
        subst ha ha'
        have HC := Lib.hid (fun (W : World) (hW : Below wr.heap.size wr W) => same_any (w := W) (p1.below hW (Nat.le_refl _)) (p2.below hW (Nat.le_refl _)) (q1.below hW (Nat.le_refl _)) (q2.below hW (Nat.le_refl _)))
        rcases hp : decide (es[k] = fs[k]) with _ | _
        · go_wp2
          go_still_tail 8, (by kernel_rfl)
          go_wp2_with (first | (go_at_call 12; refine (HC.out _ (Below.refl _ _).drew).mono ?_; rintro e' w1 ⟨rfl, hb2⟩))
          go_ret
          exact ⟨by rw [HT.out, firstD_stop hlt hlt' (of_decide_eq_false hp)]; try rfl, hb.drew.trans (hb2.mono hb.size)⟩
        · go_wp2
          go_still_tail 8, (by kernel_rfl)
          go_wp2_with (first | (go_at_call 12; refine (HC.out _ (Below.refl _ _).drew).mono ?_; rintro e' w1 ⟨rfl, hb2⟩))
          go_roundw
          case rel => exact ⟨k + 1, by omega, by omega, by go_num, Lib.hid (by rw [HT.out, firstD_step hlt hlt' (of_decide_eq_true hp)]), hb.drew.trans (hb2.mono hb.size)⟩
          case measure => simp [intOf]; omega
      · have hke : k = fs.length := by omega
        have hb0 : ((es.length : Int) == (fs.length : Int)) = false := by simp; omega
        have HE := Lib.hid hke; clear hke
        go_wp2
        go_ret
        exact ⟨by rw [HT.out, firstD_right (by have := HE.out; omega) HE.out]; show Ending.returned (.int .i64 (fs.length : Int)) = _; rw [HE.out], hb⟩
end Go.Proofs.YtmaknbbijgihgaaGreatDoor
namespace Go.Proofs.YtmaknbbijgihgaaGreatDoor
open Go.RowKit
/-- An image's cells. -/
structure ImgOk (xs : Array Value) : Prop where
  size : xs.size = 192
  ints : ∀ i, i < 192 → ∃ n : Int, xs[i]? = some (.int .i64 n)
theorem ImgOk.one {xs : Array Value} (h : ImgOk xs) : xs.all (·.oneCell') = true := by
  rw [Array.all_eq_true]
  intro i hi
  obtain ⟨n, hn⟩ := h.ints i (by rw [← h.size]; exact hi)
  have : xs[i] = .int .i64 n := by rw [Array.getElem?_eq_getElem hi] at hn; exact Option.some.inj hn
  rw [this]; rfl
theorem ImgOk.set {xs : Array Value} (h : ImgOk xs) (k : Nat) (v : Int) : ImgOk (xs.setIfInBounds k (.int .i64 v)) := by
  refine ⟨by simp [h.size], fun i hi => ?_⟩
  rw [Array.getElem?_setIfInBounds]
  by_cases e : k = i
  · subst e; exact ⟨v, by simp [h.size, hi]⟩
  · simp [e]; exact h.ints i hi
theorem zero25 : ImgOk Tryz.zeroCells25 := by
  refine ⟨by kernel_rfl, fun i hi => ?_⟩
  have e : Tryz.zeroCells25 = Array.replicate 192 (.int .i64 0) := by kernel_rfl
  exact ⟨0, by rw [e]; simp [hi]⟩
theorem size25 : (Tryz.prog.info? 25).map (·.size) = some 192 := by kernel_rfl
def ImgPost (ys : Array Value) (w : World) (e : Ending) (w' : World) : Prop := e = .returned (.agg ys) ∧ Below w.heap.size w w'
set_option maxRecDepth 100000 in
set_option maxHeartbeats 4000000 in
theorem put_1 {xs : Array Value} {k : Nat} {v : Int} {w : World} (hx : ImgOk xs) (h1 : k < 64) :
    Calls Tryz.prog 41 #[.agg xs, .int .i64 1, .int .i64 (k : Int), .int .i64 v] w (ImgPost (xs.setIfInBounds (k) (.int .i64 v)) w) := by
  obtain ⟨old, ho⟩ := hx.ints (k) (by omega)
  have hY := Lib.hid (hx.set (k) v)
  have hsz := Lib.hid hx.size
  have HX := Lib.hid hx; clear hx
  go_enter Tryz.func41, Tryz.ntmps41
  go_wp2_with (first | (with_reducible refine wpList_load_row rfl 25 (.tmp 4) rfl w.heap.size rfl 25 (xs.setIfInBounds (k) (.int .i64 v)) (0, 0) _ (heap_alloc2_old _ _ _) Tryz.underlying25 rfl (by rw [hY.out.size]; exact size25) ?_) | (with_reducible refine wpList_store_row rfl 25 (.tmp 8) (.tmp 26) rfl (w.heap.size + 1) (xs.setIfInBounds (k) (.int .i64 v)) rfl rfl 25 Tryz.zeroCells25 (heap_alloc2_new _ _ _) (by rw [hY.out.size]; exact size25) (by rw [hY.out.size]; exact zero25.size) hY.out.one ?_))
  refine bodyPost_ret (v := .agg (xs.setIfInBounds (k) (.int .i64 v))) (results_cell_row Tryz.results41 _ _ (w.heap.size + 1) 25 (xs.setIfInBounds (k) (.int .i64 v)) (0, 0) _ rfl (setRow_heap _ _ Tryz.zeroCells25 _ 25 _ (heap_alloc2_new _ _ _)) Tryz.underlying25 rfl (by rw [hY.out.size]; exact size25)) rfl ⟨rfl, below_setRow (alloc2_below _ _ _) (by omega) _⟩
set_option maxRecDepth 100000 in
set_option maxHeartbeats 4000000 in
theorem put_2 {xs : Array Value} {k : Nat} {v : Int} {w : World} (hx : ImgOk xs) (h1 : k < 64) :
    Calls Tryz.prog 41 #[.agg xs, .int .i64 2, .int .i64 (k : Int), .int .i64 v] w (ImgPost (xs.setIfInBounds (64 + k) (.int .i64 v)) w) := by
  obtain ⟨old, ho⟩ := hx.ints (64 + k) (by omega)
  have hY := Lib.hid (hx.set (64 + k) v)
  have hsz := Lib.hid hx.size
  have HX := Lib.hid hx; clear hx
  go_enter Tryz.func41, Tryz.ntmps41
  go_wp2_with (first | (with_reducible refine wpList_load_row rfl 25 (.tmp 4) rfl w.heap.size rfl 25 (xs.setIfInBounds (64 + k) (.int .i64 v)) (0, 0) _ (heap_alloc2_old _ _ _) Tryz.underlying25 rfl (by rw [hY.out.size]; exact size25) ?_) | (with_reducible refine wpList_store_row rfl 25 (.tmp 8) (.tmp 26) rfl (w.heap.size + 1) (xs.setIfInBounds (64 + k) (.int .i64 v)) rfl rfl 25 Tryz.zeroCells25 (heap_alloc2_new _ _ _) (by rw [hY.out.size]; exact size25) (by rw [hY.out.size]; exact zero25.size) hY.out.one ?_))
  refine bodyPost_ret (v := .agg (xs.setIfInBounds (64 + k) (.int .i64 v))) (results_cell_row Tryz.results41 _ _ (w.heap.size + 1) 25 (xs.setIfInBounds (64 + k) (.int .i64 v)) (0, 0) _ rfl (setRow_heap _ _ Tryz.zeroCells25 _ 25 _ (heap_alloc2_new _ _ _)) Tryz.underlying25 rfl (by rw [hY.out.size]; exact size25)) rfl ⟨rfl, below_setRow (alloc2_below _ _ _) (by omega) _⟩
set_option maxRecDepth 100000 in
set_option maxHeartbeats 4000000 in
theorem put_3 {xs : Array Value} {k : Nat} {v : Int} {w : World} (hx : ImgOk xs) (h1 : k < 64) :
    Calls Tryz.prog 41 #[.agg xs, .int .i64 3, .int .i64 (k : Int), .int .i64 v] w (ImgPost (xs.setIfInBounds (128 + k) (.int .i64 v)) w) := by
  obtain ⟨old, ho⟩ := hx.ints (128 + k) (by omega)
  have hY := Lib.hid (hx.set (128 + k) v)
  have hsz := Lib.hid hx.size
  have HX := Lib.hid hx; clear hx
  go_enter Tryz.func41, Tryz.ntmps41
  go_wp2_with (first | (with_reducible refine wpList_load_row rfl 25 (.tmp 4) rfl w.heap.size rfl 25 (xs.setIfInBounds (128 + k) (.int .i64 v)) (0, 0) _ (heap_alloc2_old _ _ _) Tryz.underlying25 rfl (by rw [hY.out.size]; exact size25) ?_) | (with_reducible refine wpList_store_row rfl 25 (.tmp 8) (.tmp 26) rfl (w.heap.size + 1) (xs.setIfInBounds (128 + k) (.int .i64 v)) rfl rfl 25 Tryz.zeroCells25 (heap_alloc2_new _ _ _) (by rw [hY.out.size]; exact size25) (by rw [hY.out.size]; exact zero25.size) hY.out.one ?_))
  refine bodyPost_ret (v := .agg (xs.setIfInBounds (128 + k) (.int .i64 v))) (results_cell_row Tryz.results41 _ _ (w.heap.size + 1) 25 (xs.setIfInBounds (128 + k) (.int .i64 v)) (0, 0) _ rfl (setRow_heap _ _ Tryz.zeroCells25 _ 25 _ (heap_alloc2_new _ _ _)) Tryz.underlying25 rfl (by rw [hY.out.size]; exact size25)) rfl ⟨rfl, below_setRow (alloc2_below _ _ _) (by omega) _⟩
end Go.Proofs.YtmaknbbijgihgaaGreatDoor
namespace Go.Proofs.YtmaknbbijgihgaaGreatDoor
open Go.RowKit
/-- A block that is known whole. -/
def Blk (w : World) (g : Nat) (cs : Array Value) (t : TypeId) : Prop := w.heap[g]? = some (.cells cs t (0, 0))
theorem Blk.lt {w : World} {g : Nat} {cs : Array Value} {t : TypeId} (h : Blk w g cs t) : g < w.heap.size := by
  unfold Blk at h
  exact (Array.getElem?_eq_some_iff.1 h).1
theorem Blk.alloc {w : World} {g : Nat} {cs : Array Value} {t : TypeId} (h : Blk w g cs t) (o : Obj) : Blk (w.alloc o) g cs t := (Below.heap_alloc w o g h.lt).trans h
theorem Blk.heap {w : World} {g : Nat} {cs : Array Value} {t : TypeId} (h : Blk w g cs t) : w.heap[g]? = some (.cells cs t (0, 0)) := h
theorem Blk.below {B : Nat} {w w' : World} {g : Nat} {cs : Array Value} {t : TypeId} (h : Blk w g cs t) (hb : Below B w w') (hg : g < B) : Blk w' g cs t := (hb.block g hg).trans h
theorem Blk.setRow {w : World} {g : Nat} {cs ds : Array Value} {t : TypeId} (h : Blk w g cs t) : Blk (w.setRow g ds) g ds t := setRow_heap _ _ cs _ t _ h
theorem Blk.far {w : World} {g g' : Nat} {cs ds : Array Value} {t : TypeId} (h : Blk w g cs t) (hne : g ≠ g') : Blk (w.setRow g' ds) g cs t := (setRow_other w g' g ds hne).trans h
theorem Blk.drewN {w : World} {g : Nat} {cs : Array Value} {t : TypeId} (h : Blk w g cs t) (n : Nat) : Blk (w.drewN n) g cs t := h
def idx (p : PD) : Nat := ((p.a - 1) * 64 + p.s).toNat
def setP (xs : Array Value) (p : PD) : Array Value := xs.setIfInBounds (idx p) (.int .i64 p.v)
def setPuts (xs : Array Value) (l : List PD) : Array Value := l.foldl setP xs
theorem ImgOk.setP {xs : Array Value} (h : ImgOk xs) (p : PD) : ImgOk (setP xs p) := h.set _ _
theorem ImgOk.setPuts {xs : Array Value} (h : ImgOk xs) : ∀ (l : List PD), ImgOk (setPuts xs l) := by
  intro l
  induction l generalizing xs with
  | nil => exact h
  | cons p l ih => exact ih (h.setP p)
theorem setPuts_succ {xs : Array Value} {l : List PD} {k : Nat} (hk : k < l.length) : setPuts xs (l.take (k + 1)) = setP (setPuts xs (l.take k)) l[k] := by
  rw [List.take_succ_eq_append_getElem hk]
  unfold setPuts
  rw [List.foldl_append]; rfl
theorem put_any {xs : Array Value} {p : PD} {w : World} (hx : ImgOk xs) (hp : p.ok = true) :
    Calls Tryz.prog 41 #[.agg xs, .int .i64 p.a, .int .i64 p.s, .int .i64 p.v] w (ImgPost (setP xs p) w) := by
  obtain ⟨a, s, v⟩ := p
  have h : okSlot a s = true := by
    unfold PD.ok okPut at hp; simp only [Bool.and_eq_true] at hp; exact hp.1
  have h2 := of_decide_eq_true (show decide (1 ≤ a ∧ a ≤ 3 ∧ 0 ≤ s ∧ s < 64) = true from h)
  obtain ⟨k, rfl⟩ : ∃ k : Nat, s = (k : Int) := ⟨s.toNat, by omega⟩
  have h3 : a = 1 ∨ a = 2 ∨ a = 3 := by omega
  unfold setP idx
  rcases h3 with rfl | rfl | rfl
  · have e : (((1 : Int) - 1) * 64 + (k : Int)).toNat = k := by omega
    simp only [e]
    exact put_1 hx (by omega)
  · have e : (((2 : Int) - 1) * 64 + (k : Int)).toNat = 64 + k := by omega
    simp only [e]
    exact put_2 hx (by omega)
  · have e : (((3 : Int) - 1) * 64 + (k : Int)).toNat = 128 + k := by omega
    simp only [e]
    exact put_3 hx (by omega)
set_option maxRecDepth 100000 in
set_option maxHeartbeats 4000000 in
theorem rset_any {xs : Array Value} {l : List PD} {v : Value} {w : World} (hx : ImgOk xs) (h : PutsAt w v l) (hok : l.all PD.ok = true) :
    Calls Tryz.prog 18 #[.agg xs, v] w (ImgPost (setPuts xs l) w) := by
  obtain ⟨ao, b, off, cap, rfl, ha, hc, hl⟩ := h
  have HA := Lib.hid ha; clear ha
  have HO := Lib.hid hok; clear hok
  have HX := Lib.hid hx; clear hx
  unfold maxLen at hl
  go_enter Tryz.func18, Tryz.ntmps18
  go_wp2
  go_loopw [9] (fun i wr => ∃ (k : Nat) (ys : Array Value), k ≤ l.length ∧ i = .int .i64 k ∧ Hid (ys = setPuts xs (l.take k)) ∧ Hid (ImgOk ys) ∧ Hid (Blk wr w.heap.size ys 25) ∧ Hid (Blk wr (w.heap.size + 1) Tryz.zeroCells25 25) ∧ Below w.heap.size w wr) (fun i _ => l.length - (intOf i).toNat)
  case atStart => exact ⟨0, xs, Nat.zero_le _, rfl, Lib.hid rfl, HX, Lib.hid (heap_alloc2_old _ _ _), Lib.hid (heap_alloc2_new _ _ _), alloc2_below _ _ _⟩
  case round =>
    obtain ⟨k, ys, hk, rfl, HT, HI, HB0, HB1, hb⟩ := hrel
    have hsz0 := HB1.out.lt
    by_cases hlt : k < l.length
    · obtain ⟨c1, c2, c3⟩ := hc.below hb (Nat.le_refl _) k hlt
      have ha := HA.out (ne_nil_of hlt)
      clear HA
      subst ha
      have HP := Lib.hid (show l[k].ok = true from List.all_eq_true.1 HO.out _ (List.getElem_mem hlt))
      go_wp2_with (first | (with_reducible refine wpList_load_row rfl 25 (.tmp 2) rfl w.heap.size rfl 25 ys (0, 0) _ (HB0.out.alloc _).heap Tryz.underlying25 rfl (by rw [HI.out.size]; exact size25) ?_) | (go_at_call 41; refine (put_any HI.out HP.out).mono ?_; rintro e w' ⟨rfl, hb2⟩) | (with_reducible refine wpList_store_row rfl 25 (.tmp 2) (.tmp 20) rfl w.heap.size (setP ys l[k]) rfl rfl 25 ys ((HB0.out.alloc _).below hb2 (by simp; omega)).heap (by rw [(HI.out.setP _).size]; exact size25) (by rw [(HI.out.setP _).size]; exact HI.out.size) (HI.out.setP _).one ?_))
      go_roundw
      case rel => exact ⟨k + 1, setP ys l[k], by omega, by go_num, Lib.hid (by rw [setPuts_succ hlt, ← HT.out]), Lib.hid (HI.out.setP _), Lib.hid ((HB0.out.alloc _).below hb2 (by simp; omega)).setRow, Lib.hid (((HB1.out.alloc _).below hb2 (by simp; omega)).far (by omega)), below_setRow ((hb.alloc hb.size _).trans (hb2.mono (by simp; omega))) (Nat.le_refl _) _⟩
      case measure => simp [intOf]; omega
    · go_wp2_with (first | (with_reducible refine wpList_load_row rfl 25 (.tmp 2) rfl w.heap.size rfl 25 ys (0, 0) _ HB0.out.heap Tryz.underlying25 rfl (by rw [HI.out.size]; exact size25) ?_) | (with_reducible refine wpList_store_row rfl 25 (.tmp 4) (.tmp 22) rfl (w.heap.size + 1) ys rfl rfl 25 Tryz.zeroCells25 HB1.out.heap (by rw [HI.out.size]; exact size25) (by rw [HI.out.size]; exact zero25.size) HI.out.one ?_))
      have he : ys = setPuts xs l := by
        have := HT.out
        rwa [List.take_of_length_le (by omega)] at this
      refine bodyPost_ret (v := .agg ys) (results_cell_row Tryz.results18 _ _ (w.heap.size + 1) 25 ys (0, 0) _ rfl HB1.out.setRow.heap Tryz.underlying25 rfl (by rw [HI.out.size]; exact size25)) rfl ⟨by rw [he], below_setRow hb (by omega) _⟩
end Go.Proofs.YtmaknbbijgihgaaGreatDoor
