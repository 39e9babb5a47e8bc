/- Proved here: the row's step: for every input that fits, the call returns true and its arguments read as before. Conditions: those of the row Rows.traceImagesRow (its listed variables as laid); none else. -/
import Derived.Test.YtmaknbbijgihgaaGreatDoorA5
import Derived.Test.YtmaknbbijgihgaaGreatDoorA7
import Derived.JoinedCond
import Derived.ProofKit
set_option linter.all false
namespace Go.Proofs.YtmaknbbijgihgaaGreatDoor
open Go.ChangeShapes Go.WideShapes Go.ChangeAt Go.RowKit
set_option maxRecDepth 1000000
theorem ownT : ownKnob Tryz.prog.godebug = none := by kernel_rfl
theorem noInitT : Tryz.prog.inits.idxOf? 3 = none := by kernel_rfl
theorem gNames : Tryz.prog.globalNamed "winch/trace.names" = some 0 := by kernel_rfl
theorem gShapes : Tryz.prog.globalNamed "winch/ast.shapes" = some 9 := by kernel_rfl
theorem tNames : (Tryz.prog.globals[0]?).map (·.type) = some 182 := by kernel_rfl
theorem tShapes : (Tryz.prog.globals[9]?).map (·.type) = some 642 := by kernel_rfl
theorem row0 : (((begin Tryz.prog (fun _ _ => 0) default).world.heap[0]?).bind Obj.row?).map (·.2) = some 182 := by kernel_rfl
theorem row9 : (((begin Tryz.prog (fun _ _ => 0) default).world.heap[9]?).bind Obj.row?).map (·.2) = some 642 := by kernel_rfl
theorem row10 : (((begin Tryz.prog (fun _ _ => 0) default).world.heap[10]?).bind Obj.row?).isSome = true := by kernel_rfl
theorem gsz11 : Tryz.prog.globals.size = 11 := by kernel_rfl
theorem shaped_at {W : World} (hS : W.ShapedOpen Tryz.prog) {g t : Nat} (hg : g < Tryz.prog.globals.size) (h : (((begin Tryz.prog (fun _ _ => 0) default).world.heap[g]?).bind Obj.row?).map (·.2) = some t) : ∃ cs, W.heap[g]? = some (.cells cs t) := by
  obtain ⟨⟨zero, t'⟩, h1, h2⟩ := Option.map_eq_some_iff.1 h
  simp only at h2
  subst h2
  obtain ⟨cs, h3, _⟩ := hS.1 g zero t' hg h1
  exact ⟨cs, h3⟩
theorem var_at {W : World} {name : String} {g : Nat} {cs cs' : Array Value} {t : TypeId} (hg : Tryz.prog.globalNamed name = some g) (hv : W.var? Tryz.prog name = some cs) (h : W.heap[g]? = some (.cells cs' t)) : cs' = cs := by
  unfold World.var? at hv
  rw [hg] at hv
  simp only [Option.bind_some, h] at hv
  exact Option.some.inj hv
theorem start_of {W : World} (hL : laidMetH Tryz.prog laidT W) (hS : W.ShapedOpen Tryz.prog) : (∃ r, Start r W) ∧ NamesAt W ∧ Tryz.prog.globals.size ≤ W.heap.size := by
  rw [MakeChecks.laidMetH_plain _ _ _ (by kernel_rfl)] at hL
  obtain ⟨ps, h, _, _⟩ := hL
  obtain ⟨_, _, _, _, _, _, _, _, _, _, h, _⟩ := h
  obtain ⟨_, _, _, _, _, _, _, _, _, _, h, _⟩ := h
  obtain ⟨_, _, _, _, _, _, _, _, _, _, h, _⟩ := h
  obtain ⟨_, _, _, _, _, _, _, _, _, _, h, _⟩ := h
  obtain ⟨_, _, _, _, _, _, _, _, _, _, h, _⟩ := h
  obtain ⟨g5, t5, c5, f5, p5, q5, a5, b5, v5, d5, h, _⟩ := h
  obtain ⟨_, _, _, _, _, _, _, _, _, _, h, _⟩ := h
  obtain ⟨_, _, _, _, _, _, _, _, _, _, h, _⟩ := h
  obtain ⟨g8, t8, c8, f8, p8, q8, a8, b8, v8, d8, h, _⟩ := h
  obtain rfl := Option.some.inj (gShapes.symm.trans a5)
  obtain rfl := Option.some.inj (gNames.symm.trans a8)
  obtain rfl := Option.some.inj (tShapes.symm.trans b5)
  obtain rfl := Option.some.inj (tNames.symm.trans b8)
  obtain ⟨cs0, h0⟩ := shaped_at hS (by rw [gsz11]; decide) row0
  obtain ⟨cs9, h9⟩ := shaped_at hS (by rw [gsz11]; decide) row9
  have e0 := var_at gNames v8 h0
  have e9 := var_at gShapes v5 h9
  subst e0 e9
  have n0 := names_open d8
  obtain ⟨r, es, clock, m1, m2, m3⟩ := shapes_open d5
  have hsz : Tryz.prog.globals.size ≤ W.heap.size := by
    have hr := row10
    cases hx : ((begin Tryz.prog (fun _ _ => 0) default).world.heap[10]?).bind Obj.row? with
    | none => rw [hx] at hr; cases hr
    | some z =>
      obtain ⟨zero, t⟩ := z
      obtain ⟨cs, h3, _⟩ := hS.1 10 zero t (by rw [gsz11]; decide) hx
      have := (Array.getElem?_eq_some_iff.1 h3).1
      rw [gsz11]; omega
  refine ⟨⟨r, hsz, ⟨cs0, _, [], h0, by rw [n0]; rfl⟩, ⟨cs9, _, [], h9, by rw [m1]; rfl⟩, es, clock, m2, m3⟩, fun k hk => ?_, hsz⟩
  unfold World.cell?
  rw [h0]
  simp only [Option.isSome_none, Bool.false_eq_true, if_false]
  rw [← Array.getElem?_toList, n0]
  match k, hk with
  | 0, _ => rfl
  | 1, _ => rfl
  | 2, _ => rfl
  | 3, _ => rfl
  | 4, _ => rfl
  | 5, _ => rfl
  | 6, _ => rfl
  | 7, _ => rfl
theorem law_calls {W : World} {v u : Value} {n : Int} {es fs : List ED} (he : EntsAt W v es) (hf : EntsAt W u fs) (hcap : ∀ ao k cap, v = .slice ao k cap → k ≤ cap) (hn : n ≤ 9223372036854775807) (hL : laidMetH Tryz.prog laidT W) (hS : W.ShapedOpen Tryz.prog) :
    Calls Tryz.prog 3 #[v, u, .int .i64 n] W (BoolPost true W) := by
  obtain ⟨⟨r, hs⟩, hN, hsz⟩ := start_of hL hS
  exact law_any he hf hcap hN hsz (fun W' hb => awake_any (hs.below hb)) hn
theorem params_arg : ∀ t, t ∈ Tryz.f3.params.toList → IsArg t := by
  rw [Tryz.params3]
  intro t ht
  simp only [List.mem_cons, List.not_mem_nil, or_false] at ht
  rcases ht with rfl | rfl | rfl <;> rfl
theorem cells_slice {W : World} {base : Nat} {v : Value} (h : Value.okWide Tryz.prog W .any base 22 v) : v.cells.toList = [v] := by
  cases v <;> first | rfl | (simp [Value.okWide, Tryz.underlying22, Cell.okWide, Cell.ok] at h)
theorem lifted (os : Os) (started : os.Started) (H : Type) (enc : TypeId × Value → H) (F : Stop.Interp) :
    ReturnsInHanded {} Tryz.checked os 3 .any ((OpenSpec.ofChange Rows.traceImagesSpec).preRow enc Tryz.prog Tryz.f3 [] false Rows.traceImagesRow.laid) (((OpenSpec.ofChange Rows.traceImagesSpec).at F).post enc Tryz.prog Tryz.f3 false true false false) := by
  refine returnsInHanded_of_row (C := Tryz.checked) (s := OpenSpec.ofChange Rows.traceImagesSpec) ownT started noInitT Tryz.func3 (witnessT enc os) ?_
  intro W base args ds gs before hval hW _ _ _ hL hS _
  have hW' := hW
  obtain ⟨p, q, hA0, hV, hpq, hfz, hnd⟩ := hW
  have hA : DataW.TrodAll enc Tryz.prog W 0 (fun _ => true) true Tryz.f3.params.toList args.toList ds p := hA0
  rw [Tryz.params3] at hA
  obtain ⟨v0, vs0, d0, ds0, a0, b0, hv0, rfl, rfl, r0, hA⟩ := trodAll_cons hA
  obtain ⟨v1, vs1, d1, ds1, a1, b1, rfl, rfl, rfl, r1, hA⟩ := trodAll_cons hA
  obtain ⟨v2, vs2, d2, ds2, a2, b2, rfl, rfl, rfl, r2, hA⟩ := trodAll_cons hA
  obtain ⟨rfl, rfl, rfl⟩ := trodAll_nil hA
  have hargs : args = #[v0, v1, v2] := by cases args; simp_all
  subst hargs
  obtain ⟨rfl, hq⟩ := trodVars_none hV
  obtain ⟨m0, r0⟩ := r0
  obtain ⟨m1, r1⟩ := r1
  obtain ⟨m2, r2⟩ := r2
  obtain ⟨es, he⟩ := (ents_open (by rw [cells_slice (hval 0 22 v0 (by rw [Tryz.params3]; rfl) rfl)] at r0; exact r0)).1
  have hcap := (ents_open (by rw [cells_slice (hval 0 22 v0 (by rw [Tryz.params3]; rfl) rfl)] at r0; exact r0)).2
  obtain ⟨fs, hf⟩ := (ents_open (by rw [cells_slice (hval 1 22 v1 (by rw [Tryz.params3]; rfl) rfl)] at r1; exact r1)).1
  obtain ⟨n, rfl, rfl, rfl, hw⟩ := open_int Tryz.underlying3 (hval 2 3 v2 (by rw [Tryz.params3]; rfl) rfl) ⟨m2, r2⟩
  have hn : n ≤ 9223372036854775807 := by
    have h2 := hw
    simp only [Lit.wf, Bool.and_eq_true, decide_eq_true_eq] at h2
    have h3 : IntKind.max .i64 = 9223372036854775807 := by decide
    rw [h3] at h2
    exact h2.2
  refine (law_calls he hf hcap hn hL hS).mono ?_
  rintro e W' ⟨rfl, hb⟩
  refine ⟨_, rfl, ?_⟩
  exact post_below (s := Rows.traceImagesSpec) params_arg rfl rfl rfl hW' hb (fun _ _ _ => trodAll_mk1 (shut_bool Tryz.underlying4 true)) (ok_one (by kernel_rfl) rfl (okWide_bool_mk Tryz.underlying4 true))
end Go.Proofs.YtmaknbbijgihgaaGreatDoor
