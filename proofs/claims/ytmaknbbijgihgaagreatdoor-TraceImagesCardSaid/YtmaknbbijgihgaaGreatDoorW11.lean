/- Proved here: the law's own body: true for any two lists of entries and any count, given that awake is true in every later world. Conditions: those of the row Rows.traceImagesRow (its listed variables as laid); none else. -/
import Derived.Test.YtmaknbbijgihgaaGreatDoorW10
import Derived.Deep.RegionHeld3
import Derived.OrdersHeld
set_option linter.all false
namespace Go.Proofs.YtmaknbbijgihgaaGreatDoor
open Go.RowKit
set_option maxRecDepth 100000 in
set_option maxHeartbeats 8000000 in
theorem law_bad0 {es fs : List ED} {v u : Value} {n : Int} {w : World} (h : EntsAt w v es) (h' : EntsAt w u fs) (hN : NamesAt w) (haw : ∀ W, Below w.heap.size w W → Calls Tryz.prog 8 #[] W (BoolPost true W)) (hb : entsOk es = false) :
    Calls Tryz.prog 3 #[v, u, .int .i64 n] w (BoolPost true w) := by
  skip
  have heq := eq25_same zero25
  obtain ⟨d, hd⟩ : ∃ d, firstD es fs 0 = d := ⟨_, rfl⟩
  have H4 := Lib.hid (image_bad h hN (Or.inl hb : entsOk es = false ∨ n < 0))
  have HF1 := Lib.hid (fun W (hW : Below w.heap.size w W) => hd ▸ first_any (h.below hW (Nat.le_refl _)) (h'.below hW (Nat.le_refl _)) : ∀ W, Below w.heap.size w W → Calls Tryz.prog 5 #[v, u] W (fun e w' => e = .returned (.int .i64 d) ∧ Below W.heap.size W w'))
  have HF2 := Lib.hid (fun W (hW : Below w.heap.size w W) => hd ▸ rfirst_any (h.below hW (Nat.le_refl _)) (h'.below hW (Nat.le_refl _)) : ∀ W, Below w.heap.size w W → Calls Tryz.prog 6 #[v, u] W (fun e w' => e = .returned (.int .i64 d) ∧ Below W.heap.size W w'))
  have HF3 := Lib.hid (fun W (hW : Below w.heap.size w W) => hd ▸ firstD_symm fs es 0 ▸ first_any (h'.below hW (Nat.le_refl _)) (h.below hW (Nat.le_refl _)) : ∀ W, Below w.heap.size w W → Calls Tryz.prog 5 #[u, v] W (fun e w' => e = .returned (.int .i64 d) ∧ Below W.heap.size W w'))
  have HF4 := Lib.hid (fun W (hW : Below w.heap.size w W) => firstD_self es 0 ▸ first_any (h.below hW (Nat.le_refl _)) (h.below hW (Nat.le_refl _)) : ∀ W, Below w.heap.size w W → Calls Tryz.prog 5 #[v, v] W (fun e w' => e = .returned (.int .i64 (-1)) ∧ Below W.heap.size W w'))
  have HE := Lib.hid (fun W (hW : Below w.heap.size w W) => hb ▸ rentries_any (h.below hW (Nat.le_refl _)) : ∀ W, Below w.heap.size w W → Calls Tryz.prog 7 #[v] W (BoolPost false W))
  have HAW := Lib.hid haw
  clear h h' hN haw hb hd
  go_enter Tryz.func3, Tryz.ntmps3
  go_wp2_with (first | (go_at_call 4; refine H4.out.mono ?_; rintro e w1 ⟨rfl, hb1⟩) | ((with_reducible refine wpList_store_row rfl 25 (.tmp 7) (.tmp 13) rfl w1.heap.size Tryz.zeroCells25 rfl rfl 25 Tryz.zeroCells25 (heap_alloc_new _ _) (by rw [zero25.size]; exact size25) rfl zero25.one ?_)) )
  have HC := Lib.hid (hb1.trans ((below_setRow (alloc_below w1 (.cells Tryz.zeroCells25 25)) (Nat.le_refl _) Tryz.zeroCells25).mono hb1.size))
  have HZ := Lib.hid (Blk.setRow (ds := Tryz.zeroCells25) (show Blk (w1.alloc (.cells Tryz.zeroCells25 25)) w1.heap.size _ _ from heap_alloc_new _ _))
  go_wp2_with (go_at_call 5; refine (HF1.out _ HC.out).mono ?_; rintro e w2 ⟨rfl, hb2⟩; have HZ := Lib.hid (HZ.out.below hb2 HZ.out.lt); have HC := Lib.hid (HC.out.trans (hb2.mono HC.out.size)))
  go_wp2_with (go_at_call 6; refine (HF2.out _ HC.out).mono ?_; rintro e w2 ⟨rfl, hb2⟩; have HZ := Lib.hid (HZ.out.below hb2 HZ.out.lt); have HC := Lib.hid (HC.out.trans (hb2.mono HC.out.size)))
  go_wp2_with (go_at_call 5; refine (HF3.out _ HC.out).mono ?_; rintro e w2 ⟨rfl, hb2⟩; have HZ := Lib.hid (HZ.out.below hb2 HZ.out.lt); have HC := Lib.hid (HC.out.trans (hb2.mono HC.out.size)))
  go_wp2_with (go_at_call 6; refine (HF2.out _ HC.out).mono ?_; rintro e w2 ⟨rfl, hb2⟩; have HZ := Lib.hid (HZ.out.below hb2 HZ.out.lt); have HC := Lib.hid (HC.out.trans (hb2.mono HC.out.size)))
  go_wp2_with (go_at_call 5; refine (HF4.out _ HC.out).mono ?_; rintro e w2 ⟨rfl, hb2⟩; have HZ := Lib.hid (HZ.out.below hb2 HZ.out.lt); have HC := Lib.hid (HC.out.trans (hb2.mono HC.out.size)))
  go_wp2_with (first | (go_at_call 7; refine (HE.out _ HC.out).mono ?_; rintro e w2 ⟨rfl, hb2⟩; have HZ := Lib.hid (HZ.out.below hb2 HZ.out.lt); have HC := Lib.hid (HC.out.trans (hb2.mono HC.out.size))) | (with_reducible refine wpList_load_row rfl 25 (.tmp 7) rfl w1.heap.size rfl 25 Tryz.zeroCells25 (0, 0) _ HZ.out.heap Tryz.underlying25 rfl (by rw [zero25.size]; exact size25) ?_))
  go_wp2_with (go_at_call 8; refine (HAW.out _ HC.out).mono ?_; rintro e w2 ⟨rfl, hb2⟩; have HC := Lib.hid (HC.out.trans (hb2.mono HC.out.size)))

  go_ret
  exact ⟨rfl, HC.out⟩
set_option maxRecDepth 100000 in
set_option maxHeartbeats 8000000 in
theorem law_bad1 {es fs : List ED} {v u : Value} {n : Int} {w : World} (h : EntsAt w v es) (h' : EntsAt w u fs) (hN : NamesAt w) (haw : ∀ W, Below w.heap.size w W → Calls Tryz.prog 8 #[] W (BoolPost true W)) (hb : entsOk es = true) (hn : n < 0) :
    Calls Tryz.prog 3 #[v, u, .int .i64 n] w (BoolPost true w) := by
  have hnd : decide (n < 0) = true := decide_eq_true hn
  have heq := eq25_same zero25
  obtain ⟨d, hd⟩ : ∃ d, firstD es fs 0 = d := ⟨_, rfl⟩
  have H4 := Lib.hid (image_bad h hN (Or.inr hn : entsOk es = false ∨ n < 0))
  have HF1 := Lib.hid (fun W (hW : Below w.heap.size w W) => hd ▸ first_any (h.below hW (Nat.le_refl _)) (h'.below hW (Nat.le_refl _)) : ∀ W, Below w.heap.size w W → Calls Tryz.prog 5 #[v, u] W (fun e w' => e = .returned (.int .i64 d) ∧ Below W.heap.size W w'))
  have HF2 := Lib.hid (fun W (hW : Below w.heap.size w W) => hd ▸ rfirst_any (h.below hW (Nat.le_refl _)) (h'.below hW (Nat.le_refl _)) : ∀ W, Below w.heap.size w W → Calls Tryz.prog 6 #[v, u] W (fun e w' => e = .returned (.int .i64 d) ∧ Below W.heap.size W w'))
  have HF3 := Lib.hid (fun W (hW : Below w.heap.size w W) => hd ▸ firstD_symm fs es 0 ▸ first_any (h'.below hW (Nat.le_refl _)) (h.below hW (Nat.le_refl _)) : ∀ W, Below w.heap.size w W → Calls Tryz.prog 5 #[u, v] W (fun e w' => e = .returned (.int .i64 d) ∧ Below W.heap.size W w'))
  have HF4 := Lib.hid (fun W (hW : Below w.heap.size w W) => firstD_self es 0 ▸ first_any (h.below hW (Nat.le_refl _)) (h.below hW (Nat.le_refl _)) : ∀ W, Below w.heap.size w W → Calls Tryz.prog 5 #[v, v] W (fun e w' => e = .returned (.int .i64 (-1)) ∧ Below W.heap.size W w'))
  have HE := Lib.hid (fun W (hW : Below w.heap.size w W) => hb ▸ rentries_any (h.below hW (Nat.le_refl _)) : ∀ W, Below w.heap.size w W → Calls Tryz.prog 7 #[v] W (BoolPost true W))
  have HAW := Lib.hid haw
  clear h h' hN haw hb hd hn
  go_enter Tryz.func3, Tryz.ntmps3
  go_wp2_with (first | (go_at_call 4; refine H4.out.mono ?_; rintro e w1 ⟨rfl, hb1⟩) | ((with_reducible refine wpList_store_row rfl 25 (.tmp 7) (.tmp 13) rfl w1.heap.size Tryz.zeroCells25 rfl rfl 25 Tryz.zeroCells25 (heap_alloc_new _ _) (by rw [zero25.size]; exact size25) rfl zero25.one ?_)) )
  have HC := Lib.hid (hb1.trans ((below_setRow (alloc_below w1 (.cells Tryz.zeroCells25 25)) (Nat.le_refl _) Tryz.zeroCells25).mono hb1.size))
  have HZ := Lib.hid (Blk.setRow (ds := Tryz.zeroCells25) (show Blk (w1.alloc (.cells Tryz.zeroCells25 25)) w1.heap.size _ _ from heap_alloc_new _ _))
  go_wp2_with (go_at_call 5; refine (HF1.out _ HC.out).mono ?_; rintro e w2 ⟨rfl, hb2⟩; have HZ := Lib.hid (HZ.out.below hb2 HZ.out.lt); have HC := Lib.hid (HC.out.trans (hb2.mono HC.out.size)))
  go_wp2_with (go_at_call 6; refine (HF2.out _ HC.out).mono ?_; rintro e w2 ⟨rfl, hb2⟩; have HZ := Lib.hid (HZ.out.below hb2 HZ.out.lt); have HC := Lib.hid (HC.out.trans (hb2.mono HC.out.size)))
  go_wp2_with (go_at_call 5; refine (HF3.out _ HC.out).mono ?_; rintro e w2 ⟨rfl, hb2⟩; have HZ := Lib.hid (HZ.out.below hb2 HZ.out.lt); have HC := Lib.hid (HC.out.trans (hb2.mono HC.out.size)))
  go_wp2_with (go_at_call 6; refine (HF2.out _ HC.out).mono ?_; rintro e w2 ⟨rfl, hb2⟩; have HZ := Lib.hid (HZ.out.below hb2 HZ.out.lt); have HC := Lib.hid (HC.out.trans (hb2.mono HC.out.size)))
  go_wp2_with (go_at_call 5; refine (HF4.out _ HC.out).mono ?_; rintro e w2 ⟨rfl, hb2⟩; have HZ := Lib.hid (HZ.out.below hb2 HZ.out.lt); have HC := Lib.hid (HC.out.trans (hb2.mono HC.out.size)))
  go_wp2_with (first | (go_at_call 7; refine (HE.out _ HC.out).mono ?_; rintro e w2 ⟨rfl, hb2⟩; have HZ := Lib.hid (HZ.out.below hb2 HZ.out.lt); have HC := Lib.hid (HC.out.trans (hb2.mono HC.out.size))) | (with_reducible refine wpList_load_row rfl 25 (.tmp 7) rfl w1.heap.size rfl 25 Tryz.zeroCells25 (0, 0) _ HZ.out.heap Tryz.underlying25 rfl (by rw [zero25.size]; exact size25) ?_))
  go_wp2_with (go_at_call 8; refine (HAW.out _ HC.out).mono ?_; rintro e w2 ⟨rfl, hb2⟩; have HC := Lib.hid (HC.out.trans (hb2.mono HC.out.size)))

  go_ret
  exact ⟨rfl, HC.out⟩
end Go.Proofs.YtmaknbbijgihgaaGreatDoor
namespace Go.Proofs.YtmaknbbijgihgaaGreatDoor
open Go.RowKit
theorem imgsIn_from : ∀ (es : List ED) (xs : Array Value), ImgIn xs → es.all ED.ok = true → ImgIn (es.foldl (fun xs e => setPuts xs e.puts2) xs)
  | [], xs, hx, _ => hx
  | e :: es, xs, hx, h => by
    rw [List.all_cons, Bool.and_eq_true] at h
    exact imgsIn_from es _ (hx.puts _ (ED.puts2_ok h.1)) h.2
theorem imgsIn {es : List ED} (h : es.all ED.ok = true) (m : Nat) : ImgIn (imgs (es.take m)) :=
  imgsIn_from _ _ zeroIn (List.all_eq_true.2 fun x hx => List.all_eq_true.1 h x (List.mem_of_mem_take hx))
theorem image_ok {es : List ED} {v : Value} {n : Nat} {w : World} (h : EntsAt w v es) (hcap : ∀ ao k cap, v = .slice ao k cap → k ≤ cap) (hN : NamesAt w) (ho : entsOk es = true) (hg : Tryz.prog.globals.size ≤ w.heap.size)
    (hn : n ≤ 9223372036854775807) : Calls Tryz.prog 4 #[v, .int .i64 (n : Int)] w (ImPost (imgs (es.take n)) 0 w) := by
  by_cases hmn : n ≤ es.length
  · exact image_ok_a h hcap hN ho hg hmn hn
  · exact image_ok_b h hcap hN ho hg (by omega) hn
theorem ld_row {P : Program} {o : Oper} {a : Act} {w : World} (ty : TypeId) (x : Operand) (ho : o.op = .load ty x)
    (g : Nat) (hx : a.eval x = .pointer (some ⟨g, 0, none⟩)) (t : TypeId) (cs : Array Value) (fr : Nat × Nat) (d : TypeDesc) (hg : w.heap[g]? = some (.cells cs t fr))
    (hu : P.underlying ty = some d) (hd : (match d with | .struct _ | .array _ _ => true | _ => false) = true) (hi : (P.info? ty).map (·.size) = some cs.size) :
    (execOp a.eval o).run P w = .ok (.value (.agg cs)) w := by
  unfold execOp
  simp only [ho, hx, Instr.loadAt, Instr.sureAddr, Sem.run_bind, Sem.run_pure, Result.andThen_ok, run_loadVar_row w g t ty cs fr d hg hu hd hi]
set_option maxRecDepth 100000 in
set_option maxHeartbeats 8000000 in
theorem law_ok {es fs : List ED} {v u : Value} {n : Nat} {w : World} (h : EntsAt w v es) (h' : EntsAt w u fs) (hcap : ∀ ao k cap, v = .slice ao k cap → k ≤ cap) (hN : NamesAt w) (hg : Tryz.prog.globals.size ≤ w.heap.size) (haw : ∀ W, Below w.heap.size w W → Calls Tryz.prog 8 #[] W (BoolPost true W)) (hb : entsOk es = true) (hn : n ≤ 9223372036854775807) :
    Calls Tryz.prog 3 #[v, u, .int .i64 (n : Int)] w (BoolPost true w) := by
  have hnd : decide ((n : Int) < 0) = false := decide_eq_false (by omega)
  have hal : es.all ED.ok = true := by unfold entsOk at hb; simp only [Bool.and_eq_true] at hb; exact hb.2
  have HI := imgsIn hal n
  have H4 := Lib.hid (image_ok h hcap hN hb hg hn)
  have HF9 := Lib.hid (fun W (hW : Below w.heap.size w W) => rimage_any (h.below hW (Nat.le_refl _)) hal hn)
  generalize imgs (es.take n) = ys at HI H4 HF9
  have heq := eq25_same HI.ok
  have hsz := Lib.hid HI.size
  have hone := Lib.hid HI.ok.one
  obtain ⟨d, hd⟩ : ∃ d, firstD es fs 0 = d := ⟨_, rfl⟩
  have HF1 := Lib.hid (fun W (hW : Below w.heap.size w W) => hd ▸ first_any (h.below hW (Nat.le_refl _)) (h'.below hW (Nat.le_refl _)) : ∀ W, Below w.heap.size w W → Calls Tryz.prog 5 #[v, u] W (fun e w' => e = .returned (.int .i64 d) ∧ Below W.heap.size W w'))
  have HF2 := Lib.hid (fun W (hW : Below w.heap.size w W) => hd ▸ rfirst_any (h.below hW (Nat.le_refl _)) (h'.below hW (Nat.le_refl _)) : ∀ W, Below w.heap.size w W → Calls Tryz.prog 6 #[v, u] W (fun e w' => e = .returned (.int .i64 d) ∧ Below W.heap.size W w'))
  have HF3 := Lib.hid (fun W (hW : Below w.heap.size w W) => hd ▸ firstD_symm fs es 0 ▸ first_any (h'.below hW (Nat.le_refl _)) (h.below hW (Nat.le_refl _)) : ∀ W, Below w.heap.size w W → Calls Tryz.prog 5 #[u, v] W (fun e w' => e = .returned (.int .i64 d) ∧ Below W.heap.size W w'))
  have HF4 := Lib.hid (fun W (hW : Below w.heap.size w W) => firstD_self es 0 ▸ first_any (h.below hW (Nat.le_refl _)) (h.below hW (Nat.le_refl _)) : ∀ W, Below w.heap.size w W → Calls Tryz.prog 5 #[v, v] W (fun e w' => e = .returned (.int .i64 (-1)) ∧ Below W.heap.size W w'))
  have HE := Lib.hid (fun W (hW : Below w.heap.size w W) => hb ▸ rentries_any (h.below hW (Nat.le_refl _)) : ∀ W, Below w.heap.size w W → Calls Tryz.prog 7 #[v] W (BoolPost true W))
  have HAW := Lib.hid haw
  clear h h' hN haw hb hd hcap hal hg
  go_enter Tryz.func3, Tryz.ntmps3
  go_wp2_with (first | (go_at_call 4; refine H4.out.mono ?_; rintro e w1 ⟨rfl, hb1⟩) | (with_reducible refine wpList_store_row rfl 25 (.tmp 7) (.tmp 13) rfl w1.heap.size ys rfl rfl 25 Tryz.zeroCells25 (heap_alloc_new _ _) (by rw [hsz.out]; exact size25) (by rw [hsz.out, zero25.size]) hone.out ?_))
  have HC := Lib.hid (hb1.trans ((below_setRow (alloc_below w1 (.cells Tryz.zeroCells25 25)) (Nat.le_refl _) ys).mono hb1.size))
  have HZ := Lib.hid (Blk.setRow (ds := ys) (show Blk (w1.alloc (.cells Tryz.zeroCells25 25)) w1.heap.size _ _ from heap_alloc_new _ _))
  go_wp2_with (go_at_call 5; refine (HF1.out _ HC.out).mono ?_; rintro e w2 ⟨rfl, hb2⟩; have HZ := Lib.hid (HZ.out.below hb2 HZ.out.lt); have HC := Lib.hid (HC.out.trans (hb2.mono HC.out.size)))
  go_wp2_with (go_at_call 6; refine (HF2.out _ HC.out).mono ?_; rintro e w2 ⟨rfl, hb2⟩; have HZ := Lib.hid (HZ.out.below hb2 HZ.out.lt); have HC := Lib.hid (HC.out.trans (hb2.mono HC.out.size)))
  go_wp2_with (go_at_call 5; refine (HF3.out _ HC.out).mono ?_; rintro e w2 ⟨rfl, hb2⟩; have HZ := Lib.hid (HZ.out.below hb2 HZ.out.lt); have HC := Lib.hid (HC.out.trans (hb2.mono HC.out.size)))
  go_wp2_with (go_at_call 6; refine (HF2.out _ HC.out).mono ?_; rintro e w2 ⟨rfl, hb2⟩; have HZ := Lib.hid (HZ.out.below hb2 HZ.out.lt); have HC := Lib.hid (HC.out.trans (hb2.mono HC.out.size)))
  go_wp2_with (go_at_call 5; refine (HF4.out _ HC.out).mono ?_; rintro e w2 ⟨rfl, hb2⟩; have HZ := Lib.hid (HZ.out.below hb2 HZ.out.lt); have HC := Lib.hid (HC.out.trans (hb2.mono HC.out.size)))
  go_wp2_with (first | (go_at_call 7; refine (HE.out _ HC.out).mono ?_; rintro e w2 ⟨rfl, hb2⟩; have HZ := Lib.hid (HZ.out.below hb2 HZ.out.lt); have HC := Lib.hid (HC.out.trans (hb2.mono HC.out.size))) | (with_reducible refine wpList_load_row rfl 25 (.tmp 7) rfl w1.heap.size rfl 25 ys (0, 0) _ HZ.out.heap Tryz.underlying25 rfl (by rw [hsz.out]; exact size25) ?_))
  clear H4 HF1 HF2 HF3 HF4 HE hone hn hb1 HI hnd
  have HC : Hid (Below w.heap.size w w2.drew) := Lib.hid HC.out.drew
  have HZ : Hid (Blk w2.drew w1.heap.size ys 25) := HZ
  refine wp_region_held (S := fun W => Hid (Below w.heap.size w W) ∧ Hid (Blk W w1.heap.size ys 25)) (by kernel_rfl) ?_
  change wpAnyH _ _ _ _ _ _ _ _ w2.drew
  refine wpAnyH_take (i := 0) (oi := { dst := some 54, op := Op.move (Operand.tmp 8), type := 26, pos := "law.go:122", after := #[], guard := none }) (v := .int .i64 0) rfl (by kernel_rfl) (by kernel_rfl) (by kernel_rfl) (fun _ _ _ h => h) (Or.inl ⟨by rfl, ?_⟩) ⟨HC, HZ⟩ ?_
  · exact fun _ _ => rfl
  simp only [Act.put, List.setIfInBounds_toArray, List.set_cons_zero, List.set_cons_succ]
  refine wpAnyH_take (i := 1) (oi := { dst := some 55, op := Op.binOp BinOp.eql 26 (Operand.tmp 54) (Operand.const (Value.int IntKind.i64 0)) 26, type := 4, pos := "law.go:122", after := #[{ on := 0, ground := Ground.data }], guard := none }) (v := .bool true) rfl (by kernel_rfl) (by kernel_rfl) (by kernel_rfl) (fun _ _ _ h => h) (Or.inl ⟨by rfl, ?_⟩) ⟨HC, HZ⟩ ?_
  · exact fun _ _ => rfl
  simp only [Act.put, List.setIfInBounds_toArray, List.set_cons_zero, List.set_cons_succ]
  refine wpAnyH_take (i := 2) (oi := { dst := some 56, op := Op.move (Operand.tmp 55), type := 4, pos := "law.go:122", after := #[{ on := 1, ground := Ground.data }], guard := none }) (v := .bool true) rfl (by kernel_rfl) (by kernel_rfl) (by kernel_rfl) (fun _ _ _ h => h) (Or.inl ⟨by rfl, ?_⟩) ⟨HC, HZ⟩ ?_
  · exact fun _ _ => rfl
  simp only [Act.put, List.setIfInBounds_toArray, List.set_cons_zero, List.set_cons_succ]
  refine wpAnyH_take (i := 3) (oi := { dst := some 57, op := Op.load 25 (Operand.tmp 7), type := 25, pos := "law.go:122", after := #[{ on := 2, ground := Ground.guard }], guard := some (2, true) }) (v := .agg ys) rfl (by kernel_rfl) (by kernel_rfl) (by kernel_rfl) (fun _ _ _ h => h) (Or.inl ⟨by rfl, ?_⟩) ⟨HC, HZ⟩ ?_
  · exact fun W hW => ld_row (o := _) 25 (.tmp 7) rfl w1.heap.size rfl 25 ys (0, 0) _ hW.2.out.heap Tryz.underlying25 rfl (by rw [hsz.out]; exact size25)
  simp only [Act.put, List.setIfInBounds_toArray, List.set_cons_zero, List.set_cons_succ]
  refine wpAnyH_take (i := 4) (oi := { dst := some 58, op := Op.move (Operand.tmp 0), type := 22, pos := "law.go:122", after := #[{ on := 2, ground := Ground.guard }], guard := some (2, true) }) (v := v) rfl (by kernel_rfl) (by kernel_rfl) (by kernel_rfl) (fun _ _ _ h => h) (Or.inl ⟨by rfl, ?_⟩) ⟨HC, HZ⟩ ?_
  · exact fun _ _ => rfl
  simp only [Act.put, List.setIfInBounds_toArray, List.set_cons_zero, List.set_cons_succ]
  refine wpAnyH_take (i := 5) (oi := { dst := some 59, op := Op.move (Operand.tmp 2), type := 3, pos := "law.go:122", after := #[{ on := 2, ground := Ground.guard }], guard := some (2, true) }) (v := .int .i64 (n : Int)) rfl (by kernel_rfl) (by kernel_rfl) (by kernel_rfl) (fun _ _ _ h => h) (Or.inl ⟨by rfl, ?_⟩) ⟨HC, HZ⟩ ?_
  · exact fun _ _ => rfl
  simp only [Act.put, List.setIfInBounds_toArray, List.set_cons_zero, List.set_cons_succ]
  refine wpAnyH_all (rs := [6]) (by kernel_rfl) (by simp) (fun i hi => ?_)
  obtain rfl := List.mem_singleton.1 hi
  refine wpOp_step rfl (fun K hK => ?_)
  rw [if_pos (by rfl)]
  go_wp2_with (go_at_call 9; refine (HF9.out _ HC.out).mono ?_; rintro e w2 ⟨rfl, hb2⟩; have HZ := Lib.hid (HZ.out.below hb2 HZ.out.lt); have HC := Lib.hid (HC.out.trans (hb2.mono HC.out.size)))
  refine ⟨⟨HC, HZ⟩, ?_⟩
  try simp only [Act.put, List.setIfInBounds_toArray, List.set_cons_zero, List.set_cons_succ]
  refine wpAnyH_take (i := 7) (oi := { dst := some 61, op := Op.binOp BinOp.eql 25 (Operand.tmp 57) (Operand.tmp 60) 25, type := 4, pos := "law.go:122", after := #[{ on := 3, ground := Ground.data }, { on := 6, ground := Ground.data }, { on := 2, ground := Ground.guard }], guard := some (2, true) }) (v := .bool true) rfl (by kernel_rfl) (by kernel_rfl) (by kernel_rfl) (fun _ _ _ h => h) (Or.inl ⟨by rfl, ?_⟩) ⟨HC, HZ⟩ ?_
  · intro W _; go_simp; try with_reducible rfl
  simp only [Act.put, List.setIfInBounds_toArray, List.set_cons_zero, List.set_cons_succ]
  refine wpAnyH_take (i := 8) (oi := { dst := some 62, op := Op.pick (Operand.tmp 56) (Operand.tmp 61) (Operand.const (Value.bool false)), type := 4, pos := "law.go:122", after := #[{ on := 2, ground := Ground.data }, { on := 7, ground := Ground.data }], guard := none }) (v := .bool true) rfl (by kernel_rfl) (by kernel_rfl) (by kernel_rfl) (fun _ _ _ h => h) (Or.inl ⟨by rfl, ?_⟩) ⟨HC, HZ⟩ ?_
  · exact fun _ _ => rfl
  simp only [Act.put, List.setIfInBounds_toArray, List.set_cons_zero, List.set_cons_succ]
  refine wpAnyH_take (i := 9) (oi := { dst := some 63, op := Op.move (Operand.tmp 62), type := 4, pos := "law.go:122", after := #[{ on := 8, ground := Ground.data }, { on := 6, ground := Ground.chain }], guard := none }) (v := .bool true) rfl (by kernel_rfl) (by kernel_rfl) (by kernel_rfl) (fun _ _ _ h => h) (Or.inl ⟨by rfl, ?_⟩) ⟨HC, HZ⟩ ?_
  · exact fun _ _ => rfl
  simp only [Act.put, List.setIfInBounds_toArray, List.set_cons_zero, List.set_cons_succ]
  refine wpAnyH_all (rs := [10]) (by kernel_rfl) (by simp) (fun i hi => ?_)
  obtain rfl := List.mem_singleton.1 hi
  refine wpOp_step rfl (fun K hK => ?_)
  rw [if_pos (by rfl)]
  go_wp2_with (go_at_call 8; refine (HAW.out _ HC.out).mono ?_; rintro e w2 ⟨rfl, hb2⟩; have HZ := Lib.hid (HZ.out.below hb2 HZ.out.lt); have HC := Lib.hid (HC.out.trans (hb2.mono HC.out.size)))
  refine ⟨⟨HC, HZ⟩, ?_⟩
  try simp only [Act.put, List.setIfInBounds_toArray, List.set_cons_zero, List.set_cons_succ]
  refine wpAnyH_take (i := 11) (oi := { dst := some 65, op := Op.pick (Operand.tmp 63) (Operand.tmp 64) (Operand.const (Value.bool false)), type := 4, pos := "law.go:122", after := #[{ on := 9, ground := Ground.data }, { on := 10, ground := Ground.data }], guard := none }) (v := .bool true) rfl (by kernel_rfl) (by kernel_rfl) (by kernel_rfl) (fun _ _ _ h => h) (Or.inl ⟨by rfl, ?_⟩) ⟨HC, HZ⟩ ?_
  · exact fun _ _ => rfl
  simp only [Act.put, List.setIfInBounds_toArray, List.set_cons_zero, List.set_cons_succ]
  refine wpAnyH_take (i := 12) (oi := { dst := some 6, op := Op.assign (Operand.tmp 65), type := 4, pos := "law.go:122", after := #[{ on := 11, ground := Ground.data }, { on := 10, ground := Ground.chain }, { on := 0, ground := Ground.phase }, { on := 1, ground := Ground.phase }, { on := 2, ground := Ground.phase }, { on := 3, ground := Ground.phase }, { on := 4, ground := Ground.phase }, { on := 5, ground := Ground.phase }, { on := 6, ground := Ground.phase }, { on := 7, ground := Ground.phase }, { on := 8, ground := Ground.phase }, { on := 9, ground := Ground.phase }, { on := 10, ground := Ground.phase }, { on := 11, ground := Ground.phase }], guard := none }) (v := .bool true) rfl (by kernel_rfl) (by kernel_rfl) (by kernel_rfl) (fun _ _ _ h => h) (Or.inl ⟨by rfl, ?_⟩) ⟨HC, HZ⟩ ?_
  · exact fun _ _ => rfl
  simp only [Act.put, List.setIfInBounds_toArray, List.set_cons_zero, List.set_cons_succ]
  refine wpAnyH_done (by kernel_rfl) ?_ _
  go_wp2
  go_ret
  exact ⟨rfl, HC.out⟩
end Go.Proofs.YtmaknbbijgihgaaGreatDoor
namespace Go.Proofs.YtmaknbbijgihgaaGreatDoor
open Go.RowKit
/-- The law, at any two lists of entries and any count: true, given that 'awake' is true in every later world. -/
theorem law_any {es fs : List ED} {v u : Value} {n : Int} {w : World} (h : EntsAt w v es) (h' : EntsAt w u fs) (hcap : ∀ ao k cap, v = .slice ao k cap → k ≤ cap) (hN : NamesAt w) (hg : Tryz.prog.globals.size ≤ w.heap.size)
    (haw : ∀ W, Below w.heap.size w W → Calls Tryz.prog 8 #[] W (BoolPost true W)) (hn : n ≤ 9223372036854775807) :
    Calls Tryz.prog 3 #[v, u, .int .i64 n] w (BoolPost true w) := by
  rcases hb : entsOk es with _ | _
  · exact law_bad0 h h' hN haw hb
  · by_cases h0 : n < 0
    · exact law_bad1 h h' hN haw hb h0
    · obtain ⟨m, rfl⟩ := Int.eq_ofNat_of_zero_le (by omega : 0 ≤ n)
      exact law_ok h h' hcap hN hg haw hb (by omega)
end Go.Proofs.YtmaknbbijgihgaaGreatDoor
