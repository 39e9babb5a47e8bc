/- Proved here: image.Check by the shadow run, over every image of 192 values of 32 bits. Conditions: those of the row Rows.traceImagesRow (its listed variables as laid); none else. -/
import Derived.Test.YtmaknbbijgihgaaGreatDoorS4
import Derived.Test.YtmaknbbijgihgaaGreatDoorW8
import Derived.KernelRfl
set_option linter.all false
namespace Go.Proofs.YtmaknbbijgihgaaGreatDoor
open Go.RowKit Go.Shadow
/-! ### What is asked of the program once -/
theorem noNGB : (Tryz.prog.funcs.toList.all fun fn => !(fn.name == "runtime.NumGoroutine")) = true := by kernel_rfl
theorem noNG : NoNG Tryz.prog := by
  intro f fn h
  have := List.all_eq_true.1 noNGB fn (by rw [← Array.mem_def]; exact Array.mem_of_getElem? h)
  simpa using this
theorem mixed : Tryz.prog.follows .mixedOrders = true := by kernel_rfl
/-! ### IsValue, of a value that is known to be of 32 bits -/
noncomputable def T47 : Table := fun f args h =>
  match Nat.beq f 47 with
  | true => match args with
    | [.v32] => some (.bool true, h)
    | _ => none
  | false => none
theorem callOk_of_calls {f : FuncId} {fn : Func} {c : Code} {args : Array Value} {w : World} {K : Value → World → Prop} (hf : Tryz.prog.funcs[f]? = some fn) (hb : fn.body = some c)
    (h : Calls Tryz.prog f args w (fun e w' => ∃ v, e = .returned v ∧ K v w')) : CallOk Tryz.prog f args w K :=
  .inr ⟨run_callFunc_body noNG hf hb, fun n => callsIn_wide.2 h⟩
theorem tab47 : TabOk Tryz.prog T47 := by
  intro φ f args args' H H' v w h hH ha
  unfold T47 at h
  cases hf : Nat.beq f 47 with
  | false => rw [hf] at h; cases h
  | true =>
    rw [hf] at h
    have := Nat.eq_of_beq_eq_true hf
    subst this
    simp only at h
    split at h
    · cases h
      obtain ⟨x, hx, e1⟩ := args1 (φ := φ) ha
      subst hx
      cases e1 with
      | @v32 n hn =>
        have hv : okVal n = true := decide_eq_true hn
        refine callOk_of_calls Tryz.func47 rfl ((isValue_any n w).mono ?_)
        rintro e w' ⟨rfl, rfl⟩
        exact ⟨_, rfl, φ, by rw [hv]; exact .bool true, hH, Step.refl _ _ _⟩
    · cases h
noncomputable def is0 : Option (AV × Heap) → Bool | some (.int .i64 (.ofNat 0), _) => true | _ => false
theorem run22 : is0 ((run Tryz.prog T47 100000).call 22 [.agg (List.replicate 192 .v32)] ⟨.nil, Tryz.prog.globals.size⟩) = true := by kernel_rfl
end Go.Proofs.YtmaknbbijgihgaaGreatDoor
namespace Go.Proofs.YtmaknbbijgihgaaGreatDoor
open Go.RowKit Go.Shadow
theorem is0_some {x : Option (AV × Heap)} (h : is0 x = true) : ∃ H, x = some (.int .i64 (.ofNat 0), H) := by
  unfold is0 at h
  split at h
  · exact ⟨_, rfl⟩
  · cases h
/-- The globals alone. -/
noncomputable def phiG : Phi := fun b => if b < Tryz.prog.globals.size then some (b, 0) else none
theorem phiG_some {b r x : Nat} (h : phiG b = some (r, x)) : b < Tryz.prog.globals.size ∧ r = b := by
  unfold phiG at h
  split at h
  · rename_i hb; cases h; exact ⟨hb, rfl⟩
  · cases h
theorem get_nil {b n : Nat} : (Heap.mk .nil n).get b = none := by
  show (Tr.get HD .nil b) = none
  exact Tr.get_nil
theorem hr0 {w : World} (hg : Tryz.prog.globals.size ≤ w.heap.size) : HR Tryz.prog phiG ⟨.nil, Tryz.prog.globals.size⟩ w := by
  refine ⟨fun b k h => ?_, fun b b' k k' r x x' h => ?_, fun b r x h => ?_, fun g h => ⟨0, ?_⟩⟩
  · rw [get_nil] at h; cases h
  · rw [get_nil] at h; cases h
  · obtain ⟨h1, rfl⟩ := phiG_some h
    exact ⟨h1, by omega⟩
  · unfold phiG; rw [if_pos h]
theorem step_below {φ φ' : Phi} {H' : Heap} {w w' : World} {n : Nat} (h : Step φ ⟨.nil, n⟩ w φ' H' w') : Below w.heap.size w w' :=
  ⟨h.os, h.tape, h.output, h.size, fun k hk => h.frame k hk (fun b k' x hb => by rw [get_nil] at hb; cases hb)⟩
/-- From the executor's run to a contract of the walk. -/
theorem calls_of_run {T : Table} (hT : TabOk Tryz.prog T) {N : Nat} {f : FuncId} {args : List AV} {args' : Array Value} {H H' : Heap} {v : AV} {φ : Phi} {w : World} (hb : hasBody Tryz.prog f = true) (hH : HR Tryz.prog φ H w) (ha : VRs φ args args'.toList)
    (h : (run Tryz.prog T N).call f args H = some (v, H')) : Calls Tryz.prog f args' w fun e w' => ∃ v', e = .returned v' ∧ Back φ Tryz.prog H w v H' v' w' := by
  obtain ⟨_, h2⟩ := ((good noNG mixed hT N).call hH ha h).enters noNG hb
  exact callsIn_wide.1 (h2 0)
structure ImgIn (xs : Array Value) : Prop where
  size : xs.size = 192
  ints : ∀ i, i < 192 → ∃ n : Int, xs[i]? = some (.int .i64 n) ∧ -2147483648 ≤ n ∧ n ≤ 2147483647
theorem ImgIn.ok {xs : Array Value} (h : ImgIn xs) : ImgOk xs := ⟨h.size, fun i hi => let ⟨n, hn, _⟩ := h.ints i hi; ⟨n, hn⟩⟩
theorem vrs_of : ∀ (l : List Value), (∀ v, v ∈ l → ∃ n : Int, v = .int .i64 n ∧ -2147483648 ≤ n ∧ n ≤ 2147483647) → VRs phiG (List.replicate l.length .v32) l
  | [], _ => .nil
  | v :: l, h => by
    obtain ⟨n, rfl, h1⟩ := h v (by simp)
    exact .cons (.v32 h1) (vrs_of l (fun u hu => h u (by simp [hu])))
theorem ImgIn.vr {xs : Array Value} (h : ImgIn xs) : VR phiG (.agg (List.replicate 192 .v32)) (.agg xs) := by
  have := vrs_of xs.toList (fun v hv => by
    obtain ⟨i, hi⟩ := List.mem_iff_getElem?.1 hv
    have hi' : xs[i]? = some v := by simpa using hi
    have hlt : i < 192 := by rw [← h.size]; exact (Array.getElem?_eq_some_iff.1 hi').1
    obtain ⟨n, h1, h2⟩ := h.ints i hlt
    rw [hi'] at h1; cases h1
    exact ⟨n, rfl, h2⟩)
  rw [Array.length_toList, h.size] at this
  exact .agg this
set_option maxRecDepth 1000000 in
theorem icheck_any {xs : Array Value} {w : World} (hx : ImgIn xs) (hg : Tryz.prog.globals.size ≤ w.heap.size) :
    Calls Tryz.prog 22 #[.agg xs] w fun e w' => e = .returned (.int .i64 0) ∧ Below w.heap.size w w' := by
  obtain ⟨H', h⟩ := is0_some run22
  refine (calls_of_run tab47 (by kernel_rfl) (hr0 hg) (args' := #[.agg xs]) (.cons hx.vr .nil) h).mono ?_
  rintro e w' ⟨v', rfl, φ', h1, h2, h3⟩
  exact ⟨by rw [h1.int_inv]; rfl, step_below h3⟩
end Go.Proofs.YtmaknbbijgihgaaGreatDoor
