/- Proved here: contracts: puts laid into an image. Conditions: those of the row Rows.traceImagesRow (its listed variables as laid); none else. -/
import Derived.Test.YtmaknbbijgihgaaGreatDoorA1
import Derived.Test.YtmaknbbijgihgaaGreatDoorW1
import Derived.StillTailTactics
import Derived.Test.YtmaknbbijgihgaaGreatDoorW6
set_option linter.all false
namespace Go.Proofs.YtmaknbbijgihgaaGreatDoor
open Go.RowKit
theorem fold_get (l : List Value) : ∀ (k : Nat) (row : Array Value) (i : Nat), k + l.length ≤ row.size →
    ((l.zipIdx k).foldl (fun (cs : Array Value) x => cs.setIfInBounds x.2 x.1) row)[i]? = if k ≤ i ∧ i < k + l.length then l[i - k]? else row[i]? := by
  induction l with
  | nil => intro k row i _; simp; intro h1 h2; omega
  | cons v l ih =>
    intro k row i h
    simp only [List.zipIdx_cons, List.foldl_cons]
    simp only [List.length_cons] at h ⊢
    rw [ih (k + 1) _ i (by simp; omega)]
    by_cases h1 : k + 1 ≤ i ∧ i < k + 1 + l.length
    · rw [if_pos h1, if_pos (by omega), show i - k = (i - (k + 1)) + 1 by omega, List.getElem?_cons_succ]
    · rw [if_neg h1, Array.getElem?_setIfInBounds]
      by_cases h2 : k = i
      · subst h2
        rw [if_pos rfl, if_pos (by omega), if_pos (by omega)]
        simp
      · rw [if_neg h2, if_neg (by omega)]
theorem built70 {xs : Array Value} (h : xs.size = 192) : Tryz.prog.built 70 [(0, .agg xs)] = some xs := by
  have e : Tryz.prog.built 70 [(0, .agg xs)] = Instr.fill (fun i => #[(0, 192)][i]?) (Array.replicate 192 (.int .i64 0)) [(0, .agg xs)] := by kernel_rfl
  rw [e]
  simp only [Instr.fill, Value.cells]
  have e2 : (xs.zipIdx.foldl (fun (cs : Array Value) (x : Value × Nat) => cs.setIfInBounds (0 + x.2) x.1) (Array.replicate 192 (.int .i64 0))) = xs := by
    apply Array.ext_getElem?
    intro i
    have := fold_get xs.toList 0 (Array.replicate 192 (.int .i64 0)) i (by simp [h])
    rw [← Array.foldl_toList, Array.toList_zipIdx]
    simp only [Nat.zero_add]
    rw [this]
    by_cases hi : i < 192
    · rw [if_pos (by simp [h]; exact hi)]; simp
    · rw [if_neg (by simp [h]; omega), Array.getElem?_eq_none (by simp; omega), Array.getElem?_eq_none (by omega)]
  simp [h]
  simpa [h] using e2
theorem fold70 {xs : Array Value} (h : xs.size = 192) : Array.foldl (fun (cs : Array Value) (x : Value × Nat) => cs.setIfInBounds x.snd x.fst) Tryz.zeroCells70 xs.zipIdx 0 xs.size = xs := by
  have e : Tryz.zeroCells70 = Array.replicate 192 (.int .i64 0) := by kernel_rfl
  rw [e]
  have hs : xs.size = xs.zipIdx.size := by simp
  rw [hs]
  apply Array.ext_getElem?
  intro i
  have := fold_get xs.toList 0 (Array.replicate 192 (.int .i64 0)) i (by simp [h])
  rw [← Array.foldl_toList, Array.toList_zipIdx, this]
  by_cases hi : i < 192
  · rw [if_pos (by simp [h]; exact hi)]; simp
  · rw [if_neg (by simp [h]; omega), Array.getElem?_eq_none (by simp; omega), Array.getElem?_eq_none (by omega)]
theorem zero70 : ImgOk Tryz.zeroCells70 := by
  have e : Tryz.zeroCells70 = Array.replicate 192 (.int .i64 0) := by kernel_rfl
  exact ⟨by rw [e]; simp, fun i hi => ⟨0, by rw [e]; simp [hi]⟩⟩
theorem size70 : (Tryz.prog.info? 70).map (·.size) = some 192 := by kernel_rfl
end Go.Proofs.YtmaknbbijgihgaaGreatDoor
namespace Go.Proofs.YtmaknbbijgihgaaGreatDoor
open Go.RowKit
set_option maxHeartbeats 1000000 in
theorem area_1 (B : Nat) (w : World) : Calls Tryz.prog 26 #[.pointer (some ⟨B, 0, none⟩), .int .i64 1] w fun e w' => e = .returned (.pointer (some ⟨B, 0, none⟩)) ∧ w' = w := by
  go_enter Tryz.func26, Tryz.ntmps26
  go_wp2
  go_ret
  exact ⟨rfl, rfl⟩
set_option maxHeartbeats 1000000 in
theorem area_2 (B : Nat) (w : World) : Calls Tryz.prog 26 #[.pointer (some ⟨B, 0, none⟩), .int .i64 2] w fun e w' => e = .returned (.pointer (some ⟨B, 64, none⟩)) ∧ w' = w := by
  go_enter Tryz.func26, Tryz.ntmps26
  go_wp2
  go_ret
  exact ⟨rfl, rfl⟩
set_option maxHeartbeats 1000000 in
theorem area_3 (B : Nat) (w : World) : Calls Tryz.prog 26 #[.pointer (some ⟨B, 0, none⟩), .int .i64 3] w fun e w' => e = .returned (.pointer (some ⟨B, 128, none⟩)) ∧ w' = w := by
  go_enter Tryz.func26, Tryz.ntmps26
  go_wp2
  go_ret
  exact ⟨rfl, rfl⟩
theorem area_any {p : PD} (B : Nat) (w : World) (hp : 1 ≤ p.a ∧ p.a ≤ 3) : Calls Tryz.prog 26 #[.pointer (some ⟨B, 0, none⟩), .int .i64 p.a] w fun e w' => e = .returned (.pointer (some ⟨B, ((p.a - 1) * 64).toNat, none⟩)) ∧ w' = w := by
  obtain ⟨a, s, v⟩ := p
  have h3 : a = 1 ∨ a = 2 ∨ a = 3 := by simp only at hp; omega
  rcases h3 with rfl | rfl | rfl
  · exact area_1 B w
  · exact area_2 B w
  · exact area_3 B w
def SetPost (ys : Array Value) (w : World) (e : Ending) (w' : World) : Prop := e = .returned (.tuple #[.agg ys, .int .i64 0]) ∧ Below w.heap.size w w'
theorem ImgIn.put1 {xs : Array Value} (h : ImgIn xs) {p : PD} (hp : p.ok = true) : ImgIn (setP xs p) := by
  obtain ⟨a, s, v⟩ := p
  have hv : okVal v = true := by unfold PD.ok okPut at hp; simp only [Bool.and_eq_true] at hp; exact hp.2
  have hv' := of_decide_eq_true (show decide (-2147483648 ≤ v ∧ v ≤ 2147483647) = true from hv)
  refine ⟨by unfold setP; simp [h.size], fun i hi => ?_⟩
  unfold setP
  rw [Array.getElem?_setIfInBounds]
  by_cases e : idx ⟨a, s, v⟩ = i
  · rw [if_pos e]
    exact ⟨v, by rw [if_pos (by rw [h.size]; omega)], hv'⟩
  · rw [if_neg e]; exact h.ints i hi
theorem ImgIn.puts {xs : Array Value} (h : ImgIn xs) : ∀ (l : List PD), l.all PD.ok = true → ImgIn (setPuts xs l) := by
  intro l
  induction l generalizing xs with
  | nil => intro _; exact h
  | cons p l ih =>
    intro ho
    simp only [List.all_cons, Bool.and_eq_true] at ho
    exact ih (h.put1 ho.1) ho.2
set_option maxRecDepth 100000 in
set_option maxHeartbeats 4000000 in
theorem iset_any {xs : Array Value} {l : List PD} {v : Value} {w : World} (hx : ImgIn xs) (h : PutsAt w v l) (hok : l.all PD.ok = true) (hg : Tryz.prog.globals.size ≤ w.heap.size) :
    Calls Tryz.prog 11 #[.agg xs, v] w (SetPost (setPuts xs l) w) := by
  have HP0 := Lib.hid h
  obtain ⟨ao, b, off, cap, rfl, ha, hc, hl⟩ := h
  have HA := Lib.hid ha; clear ha
  have HO := Lib.hid hok
  have HX := Lib.hid hx; clear hx
  have HG := Lib.hid hg; clear hg
  unfold maxLen at hl
  have hsz := HX.out.size
  have hf := fold70 hsz
  rw [hsz] at hf
  have hz := zero70.size
  go_enter Tryz.func11, Tryz.ntmps11
  go_wp2_with (first | (with_reducible refine wpList_load_row rfl 25 (.tmp 2) rfl w.heap.size rfl 25 xs (0, 0) _ (heap_alloc2_old _ _ _) Tryz.underlying25 rfl (by rw [HX.out.size]; exact size25) ?_) | (go_at_call 22; refine (icheck_any HX.out (Nat.le_trans HG.out (alloc2_below _ _ _).size)).mono ?_; rintro e w1 ⟨rfl, hb1⟩; obtain ⟨hbc, hbf⟩ := bcell hb1) | (go_at_call 23; refine (contains24 (HP0.out.below ((alloc2_below _ _ _).trans (hb1.mono (by simp; omega))) (Nat.le_refl _))).mono ?_; rintro e w2 ⟨rfl, hb2⟩; have HB := Lib.hid (((show Blk _ w.heap.size xs 25 from heap_alloc2_old _ _ _).below hb1 (by simp; omega)).below hb2 (Nat.lt_of_lt_of_le (by simp; omega) hb1.size))) | (with_reducible refine wpList_load_row rfl 25 (.tmp 2) rfl w.heap.size rfl 25 xs (0, 0) _ HB.out.heap Tryz.underlying25 rfl (by rw [HX.out.size]; exact size25) ?_) | (with_reducible refine wpList_store_row rfl 70 (.tmp 6) (.tmp 18) rfl w2.heap.size xs rfl rfl 70 Tryz.zeroCells70 (heap_alloc_new _ _) (by rw [HX.out.size]; exact size70) (by rw [HX.out.size]; exact zero70.size) HX.out.ok.one ?_))
  clear hsz hf hz
  go_loopw [21] (fun i wr => ∃ (k : Nat) (ys : Array Value), k ≤ l.length ∧ i = .int .i64 k ∧ Hid (ys = setPuts xs (l.take k)) ∧ Hid (ImgIn ys) ∧ Hid (Blk wr w2.heap.size ys 70) ∧ Below w2.heap.size w2 wr) (fun i _ => l.length - (intOf i).toNat)
  case atStart => exact ⟨0, xs, Nat.zero_le _, rfl, Lib.hid rfl, HX, Lib.hid (show Blk (w2.alloc _) _ _ _ from heap_alloc_new _ _).setRow, below_setRow (alloc_below _ _) (Nat.le_refl _) _⟩
  case round =>
    obtain ⟨k, ys, hk, rfl, HT, HI, HY, hb⟩ := hrel
    have hsz0 := HY.out.lt
    have hw2 : w.heap.size + 1 < w2.heap.size := Nat.lt_of_lt_of_le (Nat.lt_of_lt_of_le (by simp) hb1.size) hb2.size
    by_cases hlt : k < l.length
    · have hpc : PutCells wr b off l := hc.below (((alloc2_below w _ _).trans (hb1.mono (by simp; omega))).trans ((hb2.mono (Nat.le_trans (by simp; omega) hb1.size)).trans (hb.mono (by omega)))) (Nat.le_refl _)
      obtain ⟨c1, c2, c3⟩ := hpc k hlt
      have ha := HA.out (ne_nil_of hlt)
      clear HA hc hpc
      subst ha
      have HP := Lib.hid (show l[k].ok = true from List.all_eq_true.1 HO.out _ (List.getElem_mem hlt))
      have HS := Lib.hid (setPuts_succ (xs := xs) hlt)
      generalize hpk : l[k] = p at c1 c2 c3 HP HS
      clear hpk
      obtain ⟨pa, ps, pv⟩ := p
      simp only at c1 c2 c3
      have hok2 : okSlot pa ps = true := by have := HP.out; unfold PD.ok okPut at this; simp only [Bool.and_eq_true] at this; exact this.1
      have hsl := of_decide_eq_true (show decide (1 ≤ pa ∧ pa ≤ 3 ∧ 0 ≤ ps ∧ ps < 64) = true from hok2)
      clear hok2
      obtain ⟨j, rfl⟩ : ∃ j : Nat, ps = (j : Int) := ⟨ps.toNat, by omega⟩
      have h3 : pa = 1 ∨ pa = 2 ∨ pa = 3 := by omega
      have hj : j < 64 := by omega
      clear hsl
      rcases h3 with rfl | rfl | rfl
      · have hjI : (j : Int) < 64 := by omega
        have q0 : (wr.alloc (Obj.cells #[.int .i64 1, .int .i64 (j : Int), .int .i64 pv] 67)).cell? ⟨wr.heap.size, 0, none⟩ = some (.int .i64 1) := cell_of_row _ _ _ _ _ _ (heap_alloc_new _ _)
        have q1 : (wr.alloc (Obj.cells #[.int .i64 1, .int .i64 (j : Int), .int .i64 pv] 67)).cell? ⟨wr.heap.size, 1, none⟩ = some (.int .i64 (j : Int)) := cell_of_row _ _ _ _ _ _ (heap_alloc_new _ _)
        have q2 : (wr.alloc (Obj.cells #[.int .i64 1, .int .i64 (j : Int), .int .i64 pv] 67)).cell? ⟨wr.heap.size, 2, none⟩ = some (.int .i64 pv) := cell_of_row _ _ _ _ _ _ (heap_alloc_new _ _)
        have qB := Lib.hid (HY.out.alloc (Obj.cells #[.int .i64 1, .int .i64 (j : Int), .int .i64 pv] 67))
        have qb := Lib.hid (hb.alloc (by omega) (Obj.cells #[.int .i64 1, .int .i64 (j : Int), .int .i64 pv] 67))
        obtain ⟨old, ho, _⟩ := HI.out.ints (j) (by omega)
        have q3 := (cell_of_row _ _ (j) _ _ _ qB.out.heap).trans ho
        have q4 := frozen_of_row _ _ (j) _ _ qB.out.heap
        have hix : setP ys ⟨1, (j : Int), pv⟩ = ys.setIfInBounds (j) (.int .i64 pv) := by
          have e : ((((1 : Int) - 1) * 64 + (j : Int))).toNat = j := by omega
          unfold setP idx; simp only [e]
        have HJ := Lib.hid hix; clear hix ho
        go_wp2
        clear c1 c2 c3
        generalize wr.alloc (Obj.cells #[.int .i64 1, .int .i64 (j : Int), .int .i64 pv] 67) = W3 at q0 q1 q2 q3 q4 qB qb ⊢
        go_still_tail 9, (by kernel_rfl)
        still_call (area_1 _ _)
        repeat still_step
        refine wpStill_nil ?_
        go_wp2
        go_roundw
        case rel => exact ⟨k + 1, ys.setIfInBounds (j) (.int .i64 pv), by omega, by go_num, Lib.hid (by rw [HS.out, ← HT.out, HJ.out]), Lib.hid (by rw [← HJ.out]; exact HI.out.put1 HP.out), Lib.hid (heap_setCell_same _ _ _ _ _ _ qB.out.heap), qb.out.drew.setCell (Nat.le_refl _) _⟩
        case measure => simp [intOf]; omega
      · have hjI : (j : Int) < 64 := by omega
        have q0 : (wr.alloc (Obj.cells #[.int .i64 2, .int .i64 (j : Int), .int .i64 pv] 67)).cell? ⟨wr.heap.size, 0, none⟩ = some (.int .i64 2) := cell_of_row _ _ _ _ _ _ (heap_alloc_new _ _)
        have q1 : (wr.alloc (Obj.cells #[.int .i64 2, .int .i64 (j : Int), .int .i64 pv] 67)).cell? ⟨wr.heap.size, 1, none⟩ = some (.int .i64 (j : Int)) := cell_of_row _ _ _ _ _ _ (heap_alloc_new _ _)
        have q2 : (wr.alloc (Obj.cells #[.int .i64 2, .int .i64 (j : Int), .int .i64 pv] 67)).cell? ⟨wr.heap.size, 2, none⟩ = some (.int .i64 pv) := cell_of_row _ _ _ _ _ _ (heap_alloc_new _ _)
        have qB := Lib.hid (HY.out.alloc (Obj.cells #[.int .i64 2, .int .i64 (j : Int), .int .i64 pv] 67))
        have qb := Lib.hid (hb.alloc (by omega) (Obj.cells #[.int .i64 2, .int .i64 (j : Int), .int .i64 pv] 67))
        obtain ⟨old, ho, _⟩ := HI.out.ints (64 + j) (by omega)
        have q3 := (cell_of_row _ _ (64 + j) _ _ _ qB.out.heap).trans ho
        have q4 := frozen_of_row _ _ (64 + j) _ _ qB.out.heap
        have hix : setP ys ⟨2, (j : Int), pv⟩ = ys.setIfInBounds (64 + j) (.int .i64 pv) := by
          have e : ((((2 : Int) - 1) * 64 + (j : Int))).toNat = 64 + j := by omega
          unfold setP idx; simp only [e]
        have HJ := Lib.hid hix; clear hix ho
        go_wp2
        clear c1 c2 c3
        generalize wr.alloc (Obj.cells #[.int .i64 2, .int .i64 (j : Int), .int .i64 pv] 67) = W3 at q0 q1 q2 q3 q4 qB qb ⊢
        go_still_tail 9, (by kernel_rfl)
        still_call (area_2 _ _)
        repeat still_step
        refine wpStill_nil ?_
        go_wp2
        go_roundw
        case rel => exact ⟨k + 1, ys.setIfInBounds (64 + j) (.int .i64 pv), by omega, by go_num, Lib.hid (by rw [HS.out, ← HT.out, HJ.out]), Lib.hid (by rw [← HJ.out]; exact HI.out.put1 HP.out), Lib.hid (heap_setCell_same _ _ _ _ _ _ qB.out.heap), qb.out.drew.setCell (Nat.le_refl _) _⟩
        case measure => simp [intOf]; omega
      · have hjI : (j : Int) < 64 := by omega
        have q0 : (wr.alloc (Obj.cells #[.int .i64 3, .int .i64 (j : Int), .int .i64 pv] 67)).cell? ⟨wr.heap.size, 0, none⟩ = some (.int .i64 3) := cell_of_row _ _ _ _ _ _ (heap_alloc_new _ _)
        have q1 : (wr.alloc (Obj.cells #[.int .i64 3, .int .i64 (j : Int), .int .i64 pv] 67)).cell? ⟨wr.heap.size, 1, none⟩ = some (.int .i64 (j : Int)) := cell_of_row _ _ _ _ _ _ (heap_alloc_new _ _)
        have q2 : (wr.alloc (Obj.cells #[.int .i64 3, .int .i64 (j : Int), .int .i64 pv] 67)).cell? ⟨wr.heap.size, 2, none⟩ = some (.int .i64 pv) := cell_of_row _ _ _ _ _ _ (heap_alloc_new _ _)
        have qB := Lib.hid (HY.out.alloc (Obj.cells #[.int .i64 3, .int .i64 (j : Int), .int .i64 pv] 67))
        have qb := Lib.hid (hb.alloc (by omega) (Obj.cells #[.int .i64 3, .int .i64 (j : Int), .int .i64 pv] 67))
        obtain ⟨old, ho, _⟩ := HI.out.ints (128 + j) (by omega)
        have q3 := (cell_of_row _ _ (128 + j) _ _ _ qB.out.heap).trans ho
        have q4 := frozen_of_row _ _ (128 + j) _ _ qB.out.heap
        have hix : setP ys ⟨3, (j : Int), pv⟩ = ys.setIfInBounds (128 + j) (.int .i64 pv) := by
          have e : ((((3 : Int) - 1) * 64 + (j : Int))).toNat = 128 + j := by omega
          unfold setP idx; simp only [e]
        have HJ := Lib.hid hix; clear hix ho
        go_wp2
        clear c1 c2 c3
        generalize wr.alloc (Obj.cells #[.int .i64 3, .int .i64 (j : Int), .int .i64 pv] 67) = W3 at q0 q1 q2 q3 q4 qB qb ⊢
        go_still_tail 9, (by kernel_rfl)
        still_call (area_3 _ _)
        repeat still_step
        refine wpStill_nil ?_
        go_wp2
        go_roundw
        case rel => exact ⟨k + 1, ys.setIfInBounds (128 + j) (.int .i64 pv), by omega, by go_num, Lib.hid (by rw [HS.out, ← HT.out, HJ.out]), Lib.hid (by rw [← HJ.out]; exact HI.out.put1 HP.out), Lib.hid (heap_setCell_same _ _ _ _ _ _ qB.out.heap), qb.out.drew.setCell (Nat.le_refl _) _⟩
        case measure => simp [intOf]; omega
    · clear hc
      have he : ys = setPuts xs l := by
        have := HT.out
        rwa [List.take_of_length_le (by omega)] at this
      have HE := Lib.hid he; clear he
      have HZ : Hid (Blk wr (w.heap.size + 1) Tryz.zeroCells25 25) := Lib.hid ((((show Blk ((w.alloc (Obj.cells xs 25)).alloc (Obj.cells Tryz.zeroCells25 25)) _ _ _ from heap_alloc2_new _ _ _).below hb1 (by simp)).below hb2 (Nat.lt_of_lt_of_le (by simp) hb1.size)).below hb (by omega))
      go_wp2_with (first | (with_reducible refine wpList_load_row rfl 25 (.tmp 35) rfl w2.heap.size rfl 70 ys (0, 0) _ HY.out.heap Tryz.underlying25 rfl (by rw [HI.out.size]; exact size25) ?_) | (with_reducible refine wpList_store_row rfl 25 (.tmp 4) (.tmp 36) rfl (w.heap.size + 1) ys rfl rfl 25 Tryz.zeroCells25 HZ.out.heap (by rw [HI.out.size]; exact size25) (by rw [HI.out.size]; exact zero25.size) HI.out.ok.one ?_))
      have hld := run_loadVar_row (P := Tryz.prog) (wr.setRow (w.heap.size + 1) ys) (w.heap.size + 1) 25 25 ys (0, 0) _ HZ.out.setRow.heap Tryz.underlying25 rfl (by rw [HI.out.size]; exact size25)
      refine bodyPost_ret (v := .tuple #[.agg ys, .int .i64 0]) (by simp [results, Tryz.results11, asAddr, hld]) rfl ⟨by rw [HE.out], ?_⟩
      exact below_setRow (((alloc2_below w _ _).trans (hb1.mono (by simp; omega))).trans ((hb2.mono (Nat.le_trans (by simp; omega) hb1.size)).trans (hb.mono (by omega)))) (by omega) _
end Go.Proofs.YtmaknbbijgihgaaGreatDoor
namespace Go.Proofs.YtmaknbbijgihgaaGreatDoor
open Go.RowKit
theorem wpStill_load_row {P : Program} {ops : Array Oper} {rest : List Oper} {o : Oper} {a : Act} {w : World} {Q : Act → Prop} (hgd : o.guard = none) (ty : TypeId) (x : Operand) (ho : o.op = .load ty x)
    (g : Nat) (hx : a.eval x = .pointer (some ⟨g, 0, none⟩)) (t : TypeId) (cs : Array Value) (fr : Nat × Nat) (d : TypeDesc) (hg : w.heap[g]? = some (.cells cs t fr))
    (hu : P.underlying ty = some d) (hd : (match d with | .struct _ | .array _ _ => true | _ => false) = true) (hi : (P.info? ty).map (·.size) = some cs.size)
    (h : wpStill P ops w Q rest (a.put o.dst (.agg cs))) : wpStill P ops w Q (o :: rest) a := by
  refine wpStill_step (fun K hK => ?_)
  have hw : Region.wanted o (yielded ops a.tmps) = true := by unfold Region.wanted; rw [hgd]
  rw [if_pos hw]
  unfold Oper.still execOp
  simp only [ho, hx, Instr.loadAt, Instr.sureAddr, Sem.run_bind, Sem.run_pure, Result.andThen_ok, run_loadVar_row w g t ty cs fr d hg hu hd hi]
  exact ⟨rfl, hK _ h⟩
/-- The image after entries. -/
noncomputable def imgs (es : List ED) : Array Value := es.foldl (fun xs e => setPuts xs e.puts2) Tryz.zeroCells25
theorem imgs_succ {es : List ED} {k : Nat} (hk : k < es.length) : imgs (es.take (k + 1)) = setPuts (imgs (es.take k)) es[k].puts2 := by
  rw [List.take_succ_eq_append_getElem hk]
  unfold imgs
  rw [List.foldl_append]; rfl
theorem zeroIn : ImgIn Tryz.zeroCells25 := by
  have e : Tryz.zeroCells25 = Array.replicate 192 (.int .i64 0) := by kernel_rfl
  exact ⟨by rw [e]; simp, fun i hi => ⟨0, by rw [e]; simp [hi], by omega, by omega⟩⟩
theorem ED.puts2_ok {e : ED} (h : e.ok = true) : e.puts2.all PD.ok = true := by
  unfold ED.ok at h
  simp only [Bool.and_eq_true] at h
  exact h.2
set_option maxRecDepth 100000 in
set_option maxHeartbeats 4000000 in
theorem rimage_any {es : List ED} {v : Value} {m : Nat} {w : World} (h : EntsAt w v es) (hok : es.all ED.ok = true) (hm : m ≤ 9223372036854775807) :
    Calls Tryz.prog 9 #[v, .int .i64 (m : Int)] w (ImgPost (imgs (es.take m)) w) := by
  obtain ⟨ao, b, off, cap, rfl, ha, hc, hl⟩ := h
  have HA := Lib.hid ha; clear ha
  have HO := Lib.hid hok; clear hok
  unfold maxLen at hl
  go_enter Tryz.func9, Tryz.ntmps9
  go_wp2_with (first | (with_reducible refine wpList_store_row rfl 25 (.tmp 5) (.tmp 7) rfl (w.heap.size + 1) Tryz.zeroCells25 rfl rfl 25 Tryz.zeroCells25 (heap_alloc2_new _ _ _) (by rw [zero25.size]; exact size25) rfl zero25.one ?_))
  go_loopw [6] (fun i wr => ∃ (k : Nat) (ys : Array Value), k ≤ es.length ∧ k ≤ m ∧ i = .int .i64 k ∧ Hid (ys = imgs (es.take k)) ∧ Hid (ImgIn ys) ∧ Hid (Blk wr w.heap.size Tryz.zeroCells25 25) ∧ Hid (Blk wr (w.heap.size + 1) ys 25) ∧ Below w.heap.size w wr) (fun i _ => es.length - (intOf i).toNat)
  case atStart => exact ⟨0, Tryz.zeroCells25, Nat.zero_le _, Nat.zero_le _, rfl, Lib.hid rfl, Lib.hid zeroIn, Lib.hid ((show Blk ((w.alloc _).alloc _) _ _ _ from heap_alloc2_old _ _ _).far (by omega)), Lib.hid (show Blk ((w.alloc _).alloc _) _ _ _ from heap_alloc2_new _ _ _).setRow, below_setRow (alloc2_below _ _ _) (by omega) _⟩
  case round =>
    obtain ⟨k, ys, hk, hkm, rfl, HT, HI, HZ, HY, hb⟩ := hrel
    by_cases hlt : k < es.length
    · by_cases hltm : k < m
      · obtain ⟨v1, v2, p1, p2, c0, c1, c2, c3, c4, c5, c6, c7, c8, c9, c10, c11⟩ := hc.below hb (Nat.le_refl _) k hlt
        have ha := HA.out (ne_nil_of hlt)
        clear HA hc
        subst ha
        have HP := Lib.hid (ED.puts2_ok (List.all_eq_true.1 HO.out _ (List.getElem_mem hlt)))
        have HC := Lib.hid (fun (W : World) (hW : Below wr.heap.size wr W) => rset_any (w := W) HI.out.ok (p2.below hW (Nat.le_refl _)) HP.out)
        clear p1 p2 c0 c1 c2 c3 c4 c5 c6 c7 c8 c9 c10
        go_wp2
        go_still_tail 6, (by kernel_rfl)
        refine wpStill_load_row rfl 25 (.tmp 5) rfl (w.heap.size + 1) rfl 25 ys (0, 0) _ HY.out.heap Tryz.underlying25 rfl (by rw [HI.out.size]; exact size25) ?_
        repeat still_step
        refine wpStill_nil ?_
        go_wp2_with (first | (go_at_call 18; refine (HC.out _ (Below.refl _ _).drew).mono ?_; rintro e' w1 ⟨rfl, hb2⟩; have HY2 := Lib.hid (show Blk w1 (w.heap.size + 1) ys 25 from (hb2.block _ HY.out.lt).trans HY.out)) | (with_reducible refine wpList_store_row rfl 25 (.tmp 5) (.tmp 25) rfl (w.heap.size + 1) (setPuts ys es[k].puts2) rfl rfl 25 ys HY2.out.heap (by rw [(HI.out.ok.setPuts _).size]; exact size25) (by rw [(HI.out.ok.setPuts _).size]; exact HI.out.size) (HI.out.ok.setPuts _).one ?_))
        go_roundw
        case rel => exact ⟨k + 1, setPuts ys es[k].puts2, by omega, by omega, by go_num, Lib.hid (by rw [imgs_succ hlt, ← HT.out]), Lib.hid (HI.out.puts _ HP.out), Lib.hid ((show Blk w1 _ _ _ from (hb2.block _ HZ.out.lt).trans HZ.out).far (by omega)), HY2.out.setRow, below_setRow (hb.drew.trans (hb2.mono hb.size)) (by omega) _⟩
        case measure => simp [intOf]; omega
      · have he : ys = imgs (es.take m) := by have := HT.out; rwa [show k = m by omega] at this
        have HE := Lib.hid he; clear he
        go_wp2_with (first | (with_reducible refine wpList_load_row rfl 25 (.tmp 5) rfl (w.heap.size + 1) rfl 25 ys (0, 0) _ HY.out.heap Tryz.underlying25 rfl (by rw [HI.out.size]; exact size25) ?_) | (with_reducible refine wpList_store_row rfl 25 (.tmp 4) (.tmp 26) rfl w.heap.size ys rfl rfl 25 Tryz.zeroCells25 HZ.out.heap (by rw [HI.out.size]; exact size25) (by rw [HI.out.size]; exact zero25.size) HI.out.ok.one ?_))
        refine bodyPost_ret (v := .agg ys) (results_cell_row Tryz.results9 _ _ w.heap.size 25 ys (0, 0) _ rfl HZ.out.setRow.heap Tryz.underlying25 rfl (by rw [HI.out.size]; exact size25)) rfl ⟨by rw [HE.out], below_setRow hb (Nat.le_refl _) _⟩
    · have he : ys = imgs (es.take m) := by
        have := HT.out
        rw [List.take_of_length_le (show es.length ≤ k by omega)] at this
        rw [List.take_of_length_le (show es.length ≤ m by omega)]; exact this
      have HE := Lib.hid he; clear he
      rcases Nat.lt_or_ge k m with hkm2 | hkm2 <;>
      (
       go_wp2_with (first | (with_reducible refine wpList_load_row rfl 25 (.tmp 5) rfl (w.heap.size + 1) rfl 25 ys (0, 0) _ HY.out.heap Tryz.underlying25 rfl (by rw [HI.out.size]; exact size25) ?_) | (with_reducible refine wpList_store_row rfl 25 (.tmp 4) (.tmp 26) rfl w.heap.size ys rfl rfl 25 Tryz.zeroCells25 HZ.out.heap (by rw [HI.out.size]; exact size25) (by rw [HI.out.size]; exact zero25.size) HI.out.ok.one ?_))
       refine bodyPost_ret (v := .agg ys) (results_cell_row Tryz.results9 _ _ w.heap.size 25 ys (0, 0) _ rfl HZ.out.setRow.heap Tryz.underlying25 rfl (by rw [HI.out.size]; exact size25)) rfl ⟨by rw [HE.out], below_setRow hb (Nat.le_refl _) _⟩)
end Go.Proofs.YtmaknbbijgihgaaGreatDoor
namespace Go.Proofs.YtmaknbbijgihgaaGreatDoor
open Go.RowKit
def ImPost (ys : Array Value) (c : Int) (w : World) (e : Ending) (w' : World) : Prop := e = .returned (.tuple #[.agg ys, .int .i64 c]) ∧ Below w.heap.size w w'
set_option maxRecDepth 100000 in
set_option maxHeartbeats 4000000 in
theorem image_bad {es : List ED} {v : Value} {n : Int} {w : World} (h : EntsAt w v es) (hN : NamesAt w) (hbad : entsOk es = false ∨ n < 0) :
    Calls Tryz.prog 4 #[v, .int .i64 n] w (ImPost Tryz.zeroCells25 2 w) := by
  rcases ho : entsOk es with _ | _
  · clear hbad
    go_enter Tryz.func4, Tryz.ntmps4
    go_wp2_with (first | (go_at_call 10; refine (check_any (h.below (alloc_below _ _) (Nat.le_refl _)) (hN.below (alloc_below _ _) (Nat.le_refl _))).mono ?_; rw [ho]; rintro e w1 ⟨rfl, hb1⟩; have HZ := Lib.hid ((show Blk (w.alloc _) w.heap.size _ _ from heap_alloc_new _ _).below hb1 (by simp))) | (with_reducible refine wpList_store_row rfl 25 (.tmp 4) (.tmp 16) rfl w.heap.size Tryz.zeroCells25 rfl rfl 25 Tryz.zeroCells25 HZ.out.heap (by rw [zero25.size]; exact size25) rfl zero25.one ?_))
    have hld := run_loadVar_row (P := Tryz.prog) (w1.setRow w.heap.size Tryz.zeroCells25) w.heap.size 25 25 Tryz.zeroCells25 (0, 0) _ HZ.out.setRow.heap Tryz.underlying25 rfl (by rw [zero25.size]; exact size25)
    exact bodyPost_ret (v := .tuple #[.agg Tryz.zeroCells25, .int .i64 2]) (by simp [results, Tryz.results4, asAddr, hld]) rfl ⟨rfl, below_setRow ((alloc_below w _).trans (hb1.mono (by simp))) (Nat.le_refl _) _⟩
  · have hn : n < 0 := by rcases hbad with h1 | h1; rw [ho] at h1; cases h1; exact h1
    clear hbad
    go_enter Tryz.func4, Tryz.ntmps4
    go_wp2_with (first | (go_at_call 10; refine (check_any (h.below (alloc_below _ _) (Nat.le_refl _)) (hN.below (alloc_below _ _) (Nat.le_refl _))).mono ?_; rw [ho]; rintro e w1 ⟨rfl, hb1⟩; have HZ := Lib.hid ((show Blk (w.alloc _) w.heap.size _ _ from heap_alloc_new _ _).below hb1 (by simp))) | (with_reducible refine wpList_store_row rfl 25 (.tmp 4) (.tmp 16) rfl w.heap.size Tryz.zeroCells25 rfl rfl 25 Tryz.zeroCells25 HZ.out.heap (by rw [zero25.size]; exact size25) rfl zero25.one ?_))
    have hld := run_loadVar_row (P := Tryz.prog) (w1.setRow w.heap.size Tryz.zeroCells25) w.heap.size 25 25 Tryz.zeroCells25 (0, 0) _ HZ.out.setRow.heap Tryz.underlying25 rfl (by rw [zero25.size]; exact size25)
    exact bodyPost_ret (v := .tuple #[.agg Tryz.zeroCells25, .int .i64 2]) (by simp [results, Tryz.results4, asAddr, hld]) rfl ⟨rfl, below_setRow ((alloc_below w _).trans (hb1.mono (by simp))) (Nat.le_refl _) _⟩
end Go.Proofs.YtmaknbbijgihgaaGreatDoor
