/- Proved here: contracts: Image of the program and of the reference; equality of images. Conditions: those of the row Rows.traceImagesRow (its listed variables as laid); none else. -/
import Derived.Test.YtmaknbbijgihgaaGreatDoorW9
import Derived.Test.YtmaknbbijgihgaaGreatDoorW8
import Derived.ChangeKeysEq
set_option linter.all false
namespace Go.Proofs.YtmaknbbijgihgaaGreatDoor
open Go.RowKit
set_option maxRecDepth 100000 in
set_option maxHeartbeats 8000000 in
theorem image_ok_a {es : List ED} {v : Value} {n : Nat} {w : World} (h : EntsAt w v es) (hcap : ∀ ao k cap, v = .slice ao k cap → k ≤ cap) (hN : NamesAt w) (ho : entsOk es = true) (hg : Tryz.prog.globals.size ≤ w.heap.size)
    (hmn : n ≤ es.length) (hn : n ≤ 9223372036854775807) :
    Calls Tryz.prog 4 #[v, .int .i64 (n : Int)] w (ImPost (imgs (es.take n)) 0 w) := by
  have H0 := Lib.hid h
  obtain ⟨ao, b, off, cap, rfl, ha, hc, hl⟩ := h
  have hcp : es.length ≤ cap := hcap _ _ _ rfl
  clear hcap
  have HA := Lib.hid ha; clear ha
  have HOK := Lib.hid ho
  have HO := Lib.hid (show es.all ED.ok = true by unfold entsOk at ho; simp only [Bool.and_eq_true] at ho; exact ho.2)
  have HG := Lib.hid hg; clear hg
  have HN := Lib.hid hN; clear hN
  unfold maxLen at hl
  clear ho
  have hn0 : decide ((n : Int) < 0) = false := decide_eq_false (by omega)
  go_enter Tryz.func4, Tryz.ntmps4
  go_wp2_with (first | (go_at_call 10; refine (check_any (H0.out.below (alloc_below _ _) (Nat.le_refl _)) (HN.out.below (alloc_below _ _) (Nat.le_refl _))).mono ?_; rw [HOK.out]; rintro e w1 ⟨rfl, hb1⟩; have HZ := Lib.hid ((show Blk (w.alloc _) w.heap.size _ _ from heap_alloc_new _ _).below hb1 (by simp))) | (with_reducible refine wpList_store_row rfl 25 (.tmp 6) (.tmp 17) rfl w1.heap.size Tryz.zeroCells25 rfl rfl 25 Tryz.zeroCells25 (heap_alloc_new _ _) (by rw [zero25.size]; exact size25) rfl zero25.one ?_))
  have HC0 := Lib.hid ((alloc_below w _).trans (hb1.mono (by simp)))
  have HS1 := Lib.hid (show w.heap.size < w1.heap.size from Nat.lt_of_lt_of_le (by simp) hb1.size)
  go_loopw [25] (fun i wr => ∃ (k : Nat) (ys : Array Value), k ≤ n ∧ i = .int .i64 k ∧ Hid (ys = imgs (es.take k)) ∧ Hid (ImgIn ys) ∧ Hid (Blk wr w.heap.size Tryz.zeroCells25 25) ∧ Hid (Blk wr w1.heap.size ys 25) ∧ Below w1.heap.size w1 wr) (fun i _ => n - (intOf i).toNat)
  case atStart => exact ⟨0, Tryz.zeroCells25, Nat.zero_le _, rfl, Lib.hid rfl, Lib.hid zeroIn, Lib.hid ((HZ.out.alloc _).far (Nat.ne_of_lt HS1.out)), Lib.hid (show Blk (w1.alloc _) _ _ _ from heap_alloc_new _ _).setRow, below_setRow (alloc_below _ _) (Nat.le_refl _) _⟩
  case round =>
    obtain ⟨k, ys, hk, rfl, HT, HI, HZ2, HY, hb⟩ := hrel
    by_cases hltb : k < n
    · have hlt : k < es.length := by omega
      have hcw := hc.below (HC0.out.trans (hb.mono (Nat.le_of_lt HS1.out))) (Nat.le_refl _)
      obtain ⟨v1, v2, p1, p2, c0, c1, c2, c3, c4, c5, c6, c7, c8, c9, c10, c11⟩ := hcw k hlt
      have ha := HA.out (ne_nil_of hlt)
      clear HA hc hcw
      subst ha
      have HP := Lib.hid (ED.puts2_ok (List.all_eq_true.1 HO.out _ (List.getElem_mem hlt)))
      have HW := Lib.hid (Nat.le_trans HG.out (Nat.le_trans (Nat.le_of_lt HS1.out) hb.size))
      have HC := Lib.hid (fun (W : World) (hW : Below wr.heap.size wr W) => iset_any (w := W) HI.out (p2.below hW (Nat.le_refl _)) HP.out (Nat.le_trans HW.out hW.size))
      have HYlt := Lib.hid HY.out.lt
      have HZlt := Lib.hid HZ2.out.lt
      obtain ⟨a1, x1, y1, z1, rfl, -⟩ := p1
      obtain ⟨a2, x2, y2, z2, rfl, -⟩ := p2
      go_wp2_with (first | (with_reducible refine wpList_load_row rfl 25 (.tmp 6) rfl w1.heap.size rfl 25 ys (0, 0) _ (HY.out.alloc _).heap Tryz.underlying25 rfl (by rw [HI.out.size]; exact size25) ?_) | (go_at_call 11; refine (HC.out _ (alloc_below _ _)).mono ?_; rintro e' w2 ⟨rfl, hb2⟩; have HY2 := Lib.hid ((HY.out.alloc _).below hb2 (Nat.lt_of_lt_of_le HYlt.out (by simp))); have HZ3 := Lib.hid ((HZ2.out.alloc _).below hb2 (Nat.lt_of_lt_of_le HZlt.out (by simp)))) | (with_reducible refine wpList_store_row rfl 25 (.tmp 6) (.tmp 34) rfl w1.heap.size (setPuts ys es[k].puts2) rfl rfl 25 ys HY2.out.heap (by rw [(HI.out.ok.setPuts _).size]; exact size25) (by rw [(HI.out.ok.setPuts _).size]; exact HI.out.size) (HI.out.ok.setPuts _).one ?_))
      go_roundw
      case rel => exact ⟨k + 1, setPuts ys es[k].puts2, by omega, by go_num, Lib.hid (by rw [imgs_succ hlt, ← HT.out]), Lib.hid (HI.out.puts _ HP.out), Lib.hid (HZ3.out.far (Nat.ne_of_lt HS1.out)), Lib.hid HY2.out.setRow, below_setRow ((hb.alloc hb.size _).trans (hb2.mono (Nat.le_trans hb.size (by simp)))) (Nat.le_refl _) _⟩
      case measure => simp [intOf]; omega
    · have he : ys = imgs (es.take n) := by
        have := HT.out
        rwa [show k = n by omega] at this
      have HE := Lib.hid he; clear he hc
      go_wp2_with (first | (with_reducible refine wpList_load_row rfl 25 (.tmp 6) rfl w1.heap.size rfl 25 ys (0, 0) _ HY.out.heap Tryz.underlying25 rfl (by rw [HI.out.size]; exact size25) ?_) | (with_reducible refine wpList_store_row rfl 25 (.tmp 4) (.tmp 37) rfl w.heap.size ys rfl rfl 25 Tryz.zeroCells25 HZ2.out.heap (by rw [HI.out.size]; exact size25) (by rw [HI.out.size]; exact zero25.size) HI.out.ok.one ?_))
      have hld := run_loadVar_row (P := Tryz.prog) (wr.setRow w.heap.size ys) w.heap.size 25 25 ys (0, 0) _ HZ2.out.setRow.heap Tryz.underlying25 rfl (by rw [HI.out.size]; exact size25)
      refine bodyPost_ret (v := .tuple #[.agg ys, .int .i64 0]) (by simp [results, Tryz.results4, asAddr, hld]) rfl ⟨by rw [HE.out], below_setRow (HC0.out.trans (hb.mono (Nat.le_of_lt HS1.out))) (Nat.le_refl _) _⟩
set_option maxRecDepth 100000 in
set_option maxHeartbeats 8000000 in
theorem image_ok_b {es : List ED} {v : Value} {n : Nat} {w : World} (h : EntsAt w v es) (hcap : ∀ ao k cap, v = .slice ao k cap → k ≤ cap) (hN : NamesAt w) (ho : entsOk es = true) (hg : Tryz.prog.globals.size ≤ w.heap.size)
    (hmn : es.length < n) (hn : n ≤ 9223372036854775807) :
    Calls Tryz.prog 4 #[v, .int .i64 (n : Int)] w (ImPost (imgs (es.take n)) 0 w) := by
  have H0 := Lib.hid h
  obtain ⟨ao, b, off, cap, rfl, ha, hc, hl⟩ := h
  have hcp : es.length ≤ cap := hcap _ _ _ rfl
  clear hcap
  have HA := Lib.hid ha; clear ha
  have HOK := Lib.hid ho
  have HO := Lib.hid (show es.all ED.ok = true by unfold entsOk at ho; simp only [Bool.and_eq_true] at ho; exact ho.2)
  have HG := Lib.hid hg; clear hg
  have HN := Lib.hid hN; clear hN
  unfold maxLen at hl
  clear ho
  have hn0 : decide ((n : Int) < 0) = false := decide_eq_false (by omega)
  go_enter Tryz.func4, Tryz.ntmps4
  go_wp2_with (first | (go_at_call 10; refine (check_any (H0.out.below (alloc_below _ _) (Nat.le_refl _)) (HN.out.below (alloc_below _ _) (Nat.le_refl _))).mono ?_; rw [HOK.out]; rintro e w1 ⟨rfl, hb1⟩; have HZ := Lib.hid ((show Blk (w.alloc _) w.heap.size _ _ from heap_alloc_new _ _).below hb1 (by simp))) | (with_reducible refine wpList_store_row rfl 25 (.tmp 6) (.tmp 17) rfl w1.heap.size Tryz.zeroCells25 rfl rfl 25 Tryz.zeroCells25 (heap_alloc_new _ _) (by rw [zero25.size]; exact size25) rfl zero25.one ?_))
  have HC0 := Lib.hid ((alloc_below w _).trans (hb1.mono (by simp)))
  have HS1 := Lib.hid (show w.heap.size < w1.heap.size from Nat.lt_of_lt_of_le (by simp) hb1.size)
  go_loopw [25] (fun i wr => ∃ (k : Nat) (ys : Array Value), k ≤ es.length ∧ i = .int .i64 k ∧ Hid (ys = imgs (es.take k)) ∧ Hid (ImgIn ys) ∧ Hid (Blk wr w.heap.size Tryz.zeroCells25 25) ∧ Hid (Blk wr w1.heap.size ys 25) ∧ Below w1.heap.size w1 wr) (fun i _ => es.length - (intOf i).toNat)
  case atStart => exact ⟨0, Tryz.zeroCells25, Nat.zero_le _, rfl, Lib.hid rfl, Lib.hid zeroIn, Lib.hid ((HZ.out.alloc _).far (Nat.ne_of_lt HS1.out)), Lib.hid (show Blk (w1.alloc _) _ _ _ from heap_alloc_new _ _).setRow, below_setRow (alloc_below _ _) (Nat.le_refl _) _⟩
  case round =>
    obtain ⟨k, ys, hk, rfl, HT, HI, HZ2, HY, hb⟩ := hrel
    by_cases hltb : k < es.length
    · have hlt : k < es.length := by omega
      have hcw := hc.below (HC0.out.trans (hb.mono (Nat.le_of_lt HS1.out))) (Nat.le_refl _)
      obtain ⟨v1, v2, p1, p2, c0, c1, c2, c3, c4, c5, c6, c7, c8, c9, c10, c11⟩ := hcw k hlt
      have ha := HA.out (ne_nil_of hlt)
      clear HA hc hcw
      subst ha
      have HP := Lib.hid (ED.puts2_ok (List.all_eq_true.1 HO.out _ (List.getElem_mem hlt)))
      have HW := Lib.hid (Nat.le_trans HG.out (Nat.le_trans (Nat.le_of_lt HS1.out) hb.size))
      have HC := Lib.hid (fun (W : World) (hW : Below wr.heap.size wr W) => iset_any (w := W) HI.out (p2.below hW (Nat.le_refl _)) HP.out (Nat.le_trans HW.out hW.size))
      have HYlt := Lib.hid HY.out.lt
      have HZlt := Lib.hid HZ2.out.lt
      obtain ⟨a1, x1, y1, z1, rfl, -⟩ := p1
      obtain ⟨a2, x2, y2, z2, rfl, -⟩ := p2
      go_wp2_with (first | (with_reducible refine wpList_load_row rfl 25 (.tmp 6) rfl w1.heap.size rfl 25 ys (0, 0) _ (HY.out.alloc _).heap Tryz.underlying25 rfl (by rw [HI.out.size]; exact size25) ?_) | (go_at_call 11; refine (HC.out _ (alloc_below _ _)).mono ?_; rintro e' w2 ⟨rfl, hb2⟩; have HY2 := Lib.hid ((HY.out.alloc _).below hb2 (Nat.lt_of_lt_of_le HYlt.out (by simp))); have HZ3 := Lib.hid ((HZ2.out.alloc _).below hb2 (Nat.lt_of_lt_of_le HZlt.out (by simp)))) | (with_reducible refine wpList_store_row rfl 25 (.tmp 6) (.tmp 34) rfl w1.heap.size (setPuts ys es[k].puts2) rfl rfl 25 ys HY2.out.heap (by rw [(HI.out.ok.setPuts _).size]; exact size25) (by rw [(HI.out.ok.setPuts _).size]; exact HI.out.size) (HI.out.ok.setPuts _).one ?_))
      go_roundw
      case rel => exact ⟨k + 1, setPuts ys es[k].puts2, by omega, by go_num, Lib.hid (by rw [imgs_succ hlt, ← HT.out]), Lib.hid (HI.out.puts _ HP.out), Lib.hid (HZ3.out.far (Nat.ne_of_lt HS1.out)), Lib.hid HY2.out.setRow, below_setRow ((hb.alloc hb.size _).trans (hb2.mono (Nat.le_trans hb.size (by simp)))) (Nat.le_refl _) _⟩
      case measure => simp [intOf]; omega
    · have he : ys = imgs (es.take n) := by
        have := HT.out
        rw [List.take_of_length_le (show es.length ≤ k by omega)] at this; rw [List.take_of_length_le (show es.length ≤ n by omega)]; exact this
      have HE := Lib.hid he; clear he hc
      go_wp2_with (first | (with_reducible refine wpList_load_row rfl 25 (.tmp 6) rfl w1.heap.size rfl 25 ys (0, 0) _ HY.out.heap Tryz.underlying25 rfl (by rw [HI.out.size]; exact size25) ?_) | (with_reducible refine wpList_store_row rfl 25 (.tmp 4) (.tmp 37) rfl w.heap.size ys rfl rfl 25 Tryz.zeroCells25 HZ2.out.heap (by rw [HI.out.size]; exact size25) (by rw [HI.out.size]; exact zero25.size) HI.out.ok.one ?_))
      have hld := run_loadVar_row (P := Tryz.prog) (wr.setRow w.heap.size ys) w.heap.size 25 25 ys (0, 0) _ HZ2.out.setRow.heap Tryz.underlying25 rfl (by rw [HI.out.size]; exact size25)
      refine bodyPost_ret (v := .tuple #[.agg ys, .int .i64 0]) (by simp [results, Tryz.results4, asAddr, hld]) rfl ⟨by rw [HE.out], below_setRow (HC0.out.trans (hb.mono (Nat.le_of_lt HS1.out))) (Nat.le_refl _) _⟩
end Go.Proofs.YtmaknbbijgihgaaGreatDoor
namespace Go.Proofs.YtmaknbbijgihgaaGreatDoor
open Go.RowKit
theorem eqItems_same (d : Nat) (w : World) (xs : Array Value) : ∀ (js : List Nat), (∀ j, j ∈ js → ∃ n : Int, xs[j]? = some (.int .i64 n)) → (Op.eqItems (d + 1) 3 1 xs xs js).run Tryz.prog w = .ok true w
  | [], _ => by simp [Op.eqItems]
  | j :: js, h => by
    obtain ⟨n, hn⟩ := h j (by simp)
    unfold Op.eqItems
    simp only [Nat.mul_one, Sem.run_bind, part3 xs j _ w hn, Result.andThen_ok, eqI_, beq_self_eq_true, Bool.not_true, Bool.false_eq_true, if_false]
    exact eqItems_same d w xs js (fun k hk => h k (by simp [hk]))
theorem eq23 (d : Nat) (w : World) (xs : Array Value) (h : ∀ j, j < 64 → ∃ n : Int, xs[j]? = some (.int .i64 n)) : (Op.equalIn (d + 1 + 1) 23 (.agg xs) (.agg xs)).run Tryz.prog w = .ok true w := by
  have hc : Tryz.prog.cellsOf 3 = 1 := by kernel_rfl
  obtain ⟨i3, hi⟩ : ∃ i, Tryz.prog.info? 3 = some i := by
    cases e : Tryz.prog.info? 3 with
    | some i => exact ⟨i, rfl⟩
    | none => have : (Tryz.prog.info? 3).isSome = true := by kernel_rfl
              rw [e] at this; cases this
  rw [run_equalIn_array w (d + 1) xs xs Tryz.underlying23 hi, hc]
  exact eqItems_same d w xs _ (fun j hj => h j (by simpa using hj))
theorem part23 (xs : Array Value) (off : Nat) (w : World) : (part 23 xs off).run Tryz.prog w = .ok (.agg (xs.extract off (off + 64))) w := by
  have hs : (Tryz.prog.info? 23).map (·.size) = some 64 := by kernel_rfl
  unfold part
  cases hq : Tryz.prog.info? 23 with
  | none => rw [hq] at hs; cases hs
  | some i =>
    rw [hq] at hs
    have hs' : i.size = 64 := by simpa using hs
    have hagg : (isAgg 23).run Tryz.prog w = .ok true w := by
      unfold isAgg
      rw [Sem.run_bind, run_underlying Tryz.underlying23 w]
      rfl
    simp [hagg, sizeOf, typeInfo, hq, hs']
theorem eq25_same {xs : Array Value} (h : ImgOk xs) (w : World) : (binOp .eql 25 (.agg xs) (.agg xs)).run Tryz.prog w = .ok (.bool true) w := by
  have hs : Tryz.prog.stoodInHeld 25 = false := by kernel_rfl
  have hp : ∀ off, off + 64 ≤ 192 → ∀ j, j < 64 → ∃ n : Int, (xs.extract off (off + 64))[j]? = some (.int .i64 n) := fun off ho j hj => by
    obtain ⟨n, hn⟩ := h.ints (off + j) (by omega)
    refine ⟨n, ?_⟩
    rw [Array.getElem?_extract, if_pos (by rw [h.size]; omega)]
    exact hn
  have e : (Op.equalIn (9997 + 1 + 1 + 1) 25 (.agg xs) (.agg xs)).run Tryz.prog w = .ok true w := by
    rw [Op.equalIn]
    simp only [Sem.run_bind, run_underlying Tryz.underlying25, Result.andThen_ok, run_program, hs]
    simp [part23, eq23 9997 w _ (hp 0 (by omega)), eq23 9997 w _ (hp 64 (by omega)), eq23 9997 w _ (hp 128 (by omega))]
  simp only [binOp, Op.equal, Sem.run_bind]
  rw [show Op.maxDepth = 9997 + 1 + 1 + 1 from rfl, e]
  rfl
theorem firstD_symm : ∀ (es fs : List ED) (k : Nat), firstD es fs k = firstD fs es k
  | [], [], _ => rfl
  | [], _ :: _, _ => rfl
  | _ :: _, [], _ => rfl
  | e :: es, f :: fs, k => by
    show (if e = f then _ else _) = (if f = e then _ else _)
    by_cases h : e = f
    · rw [if_pos h, if_pos h.symm]; exact firstD_symm es fs (k + 1)
    · rw [if_neg h, if_neg (fun h' => h h'.symm)]
theorem firstD_self : ∀ (es : List ED) (k : Nat), firstD es es k = -1
  | [], _ => rfl
  | e :: es, k => by
    show (if e = e then _ else _) = _
    rw [if_pos rfl]; exact firstD_self es (k + 1)
end Go.Proofs.YtmaknbbijgihgaaGreatDoor
