/- Proved here: awake is true in every world in which the listed variables read as laid; what the laid data and the arguments' readings say. Conditions: those of the row Rows.traceImagesRow (its listed variables as laid); none else. -/
import Derived.Test.YtmaknbbijgihgaaGreatDoorA2
import Derived.Test.YtmaknbbijgihgaaGreatDoorA3
import Derived.Test.YtmaknbbijgihgaaGreatDoorA4
import Derived.Test.YtmaknbbijgihgaaGreatDoorW11
import Derived.LaidMore
import Derived.OpenShut
import Derived.ChangeSame
set_option linter.all false
namespace Go.Proofs.YtmaknbbijgihgaaGreatDoor
open Go.RowKit Go.Shadow
theorem tabNone : TabOk Tryz.prog noTab := fun h => by cases h
theorem gsz (n : Nat) (h : 11 ≤ n) : Tryz.prog.globals.size ≤ n := by
  have : Tryz.prog.globals.size = 11 := by kernel_rfl
  omega
theorem hr_size {φ : Phi} {H : Heap} {w : World} (h : HR Tryz.prog φ H w) : Tryz.prog.globals.size ≤ w.heap.size := by
  cases hn : Tryz.prog.globals.size with
  | zero => exact Nat.zero_le _
  | succ n =>
    obtain ⟨x, e⟩ := h.glob n (by omega)
    have := (h.dom _ _ _ e).2
    omega
theorem isI32_some {v : AV} (h : isI32 v = true) : ∃ n : Int, v = .int .i64 n ∧ -2147483648 ≤ n ∧ n ≤ 2147483647 := by
  unfold isI32 at h
  split at h
  · rename_i n
    simp only [Bool.and_eq_true] at h
    refine ⟨n, rfl, ?_, ?_⟩
    · have := h.1; unfold leI at this; rw [ltI_eq] at this; simpa using this
    · have := h.2; unfold leI at this; rw [ltI_eq] at this; simpa using this
  · cases h
theorem allI32_some : ∀ {l : List AV}, allI32 l = true → ∀ v, v ∈ l → isI32 v = true
  | [], _, v, hv => by cases hv
  | x :: l, h, v, hv => by
    unfold allI32 at h
    simp only [Bool.and_eq_true] at h
    rcases List.mem_cons.1 hv with rfl | hv
    · exact h.1
    · exact allI32_some h.2 v hv
theorem vrs_back {φ : Phi} : ∀ {l : List AV} {l' : List Value}, VRs φ l l' → ∀ v', v' ∈ l' → ∃ v, v ∈ l ∧ VR φ v v'
  | _, _, .nil, v', hv => by cases hv
  | _, _, .cons e t, v', hv => by
    rcases List.mem_cons.1 hv with rfl | hv
    · exact ⟨_, List.mem_cons_self .., e⟩
    · obtain ⟨v, h1, h2⟩ := vrs_back t v' hv
      exact ⟨v, List.mem_cons_of_mem _ h1, h2⟩
set_option maxRecDepth 1000000 in
theorem tab22 : TabOk Tryz.prog know22 := by
  intro φ f args args' H H' v w h hH ha
  unfold know22 at h
  cases hf : Nat.beq f 22 with
  | false => rw [hf] at h; cases h
  | true =>
    rw [hf] at h
    have := Nat.eq_of_beq_eq_true hf
    subst this
    simp only at h
    split at h
    · rename_i cs
      cases hc : (Nat.beq cs.length 192 && allI32 cs) with
      | false => rw [hc] at h; cases h
      | true =>
        rw [hc] at h
        cases h
        simp only [Bool.and_eq_true] at hc
        obtain ⟨x, hx, e1⟩ := args1 (φ := φ) ha
        subst hx
        obtain ⟨xs, rfl, hxs⟩ := e1.agg_inv
        have hlen := hxs.length
        rw [Nat.eq_of_beq_eq_true hc.1, Array.length_toList] at hlen
        have hI : ImgIn xs := by
          refine ⟨hlen.symm, fun i hi => ?_⟩
          have hi' : i < xs.size := by omega
          obtain ⟨v, h1, h2⟩ := vrs_back hxs xs[i] (by simp)
          obtain ⟨n, rfl, h3⟩ := isI32_some (allI32_some hc.2 v h1)
          exact ⟨n, by rw [Array.getElem?_eq_getElem hi', h2.int_inv], h3⟩
        refine callOk_of_calls Tryz.func22 rfl ((icheck_any hI (hr_size hH)).mono ?_)
        rintro e w' ⟨rfl, hb⟩
        exact ⟨_, rfl, back_same hH (.int _ _) hb.size (fun r hr => hb.block r hr) hb.os hb.output hb.tape⟩
    · cases h
set_option maxRecDepth 1000000 in
theorem tabA : TabOk Tryz.prog knowA := tab_knows noNG mixed tabNone (n := 32) (by kernel_rfl) (by kernel_rfl) (gsz _ (by decide)) rfl runA
set_option maxRecDepth 1000000 in
theorem tabB : TabOk Tryz.prog knowB := tab_knows noNG mixed tabNone (n := 580) (by kernel_rfl) (by kernel_rfl) (gsz _ (by decide)) rfl runB
set_option maxRecDepth 1000000 in
theorem tabD : TabOk Tryz.prog knowD := tab_knows noNG mixed tab22 (n := 11) (by kernel_rfl) (by kernel_rfl) (gsz _ (by decide)) (by kernel_rfl) runD
set_option maxRecDepth 1000000 in
theorem tabE : TabOk Tryz.prog knowE := tab_knowsNew noNG mixed tab22 (n := 11) (by kernel_rfl) (by kernel_rfl) (gsz _ (by decide)) (by kernel_rfl) runE
set_option maxRecDepth 1000000 in
theorem tabAll : TabOk Tryz.prog knowAll := tab_or tab22 (tab_or tabA (tab_or tabB (tab_or tabD tabE)))

/-! ### The world in which the law is called -/
noncomputable def entries : List (AV × AV × Nat) := match blk11 with | .map es _ _ => es | _ => []
structure Start (r : Nat) (W : World) : Prop where
  size : Tryz.prog.globals.size ≤ W.heap.size
  names : ∃ arr fr rest, W.heap[0]? = some (.cells arr 182 fr) ∧ arr.toList = [Value.string (nm 0), .string (nm 1), .string (nm 2), .string (nm 3), .string (nm 4), .string (nm 5), .string (nm 6), .string (nm 7)] ++ rest
  shapes : ∃ arr fr rest, W.heap[9]? = some (.cells arr 642 fr) ∧ arr.toList = [Value.map (some r)] ++ rest
  map : ∃ es clock, W.heap[r]? = some (.map es clock) ∧ ∀ φ, Bag φ entries es.toList
theorem Start.lt {r : Nat} {W : World} (h : Start r W) : r < W.heap.size := by
  obtain ⟨es, clock, h1, _⟩ := h.map
  exact (Array.getElem?_eq_some_iff.1 h1).1
theorem Start.below {r : Nat} {W W' : World} (h : Start r W) (hb : Below W.heap.size W W') : Start r W' := by
  have k := h.lt
  have hg := h.size
  have g0 : Tryz.prog.globals.size = 11 := by kernel_rfl
  obtain ⟨a1, a2, a3, a4, a5⟩ := h.names
  obtain ⟨b1, b2, b3, b4, b5⟩ := h.shapes
  obtain ⟨c1, c2, c3, c4⟩ := h.map
  exact ⟨Nat.le_trans hg hb.size, ⟨a1, a2, a3, by rw [hb.block 0 (by omega)]; exact a4, a5⟩, ⟨b1, b2, b3, by rw [hb.block 9 (by omega)]; exact b4, b5⟩, ⟨c1, c2, by rw [hb.block r k]; exact c3, c4⟩⟩
noncomputable def phiS (r : Nat) : Phi := fun b => if b < Tryz.prog.globals.size then some (b, 0) else if b = 11 then some (r, 0) else none
theorem laid_mem {n : Nat} : ∀ (L : List (Nat × ABlk)) (b : Nat) (k : ABlk), (laid n L).get b = some k → (b, k) ∈ L
  | [], b, k, h => by
    exfalso
    have : (⟨.nil, n⟩ : Heap).get b = none := by
      show Tr.top b (Tr.find HD (.nil : Tr ABlk) b) = none
      rw [find_nil]; rfl
    rw [show laid n [] = ⟨.nil, n⟩ from rfl, this] at h
    cases h
  | x :: l, b, k, h => by
    by_cases e : b = x.1
    · subst e
      rw [show laid n (x :: l) = (laid n l).set x.1 x.2 from rfl, Heap.get_set] at h
      cases h
      exact List.mem_cons_self ..
    · exact List.mem_cons_of_mem _ (laid_mem l b k (Heap.get_set_ne e h))
theorem vrs_names (φ : Phi) : VRs φ [.str [], .str [106, 111, 98], .str [115, 116, 97, 114, 116], .str [115, 116, 111, 112], .str [112, 111, 119, 101, 114], .str [102, 111, 114, 99, 101], .str [102, 114, 101, 101], .str [99, 104, 97, 110, 103, 101]]
    [Value.string (nm 0), .string (nm 1), .string (nm 2), .string (nm 3), .string (nm 4), .string (nm 5), .string (nm 6), .string (nm 7)] :=
  .cons (.str (nm 0)) (.cons (.str (nm 1)) (.cons (.str (nm 2)) (.cons (.str (nm 3)) (.cons (.str (nm 4)) (.cons (.str (nm 5)) (.cons (.str (nm 6)) (.cons (.str (nm 7)) .nil)))))))
theorem hrS {r : Nat} {W : World} (h : Start r W) : HR Tryz.prog (phiS r) heap0 W := by
  have g0 : Tryz.prog.globals.size = 11 := by kernel_rfl
  have hg := h.size
  obtain ⟨a1, a2, a3, a4, a5⟩ := h.names
  obtain ⟨b1, b2, b3, b4, b5⟩ := h.shapes
  obtain ⟨c1, c2, c3, c4⟩ := h.map
  have p0 : phiS r 0 = some (0, 0) := by unfold phiS; rw [g0]; rfl
  have p9 : phiS r 9 = some (9, 0) := by unfold phiS; rw [g0]; rfl
  have p11 : phiS r 11 = some (r, 0) := by unfold phiS; rw [g0]; rfl
  have r0 : r ≠ 0 := fun e => by subst e; rw [a4] at c3; cases c3
  have r9 : r ≠ 9 := fun e => by subst e; rw [b4] at c3; cases c3
  have mem : ∀ b k, heap0.get b = some k → (b = 0 ∧ k = blk0) ∨ (b = 9 ∧ k = blk9) ∨ (b = 11 ∧ k = blk11) := fun b k hk => by
    have := laid_mem _ b k hk
    simpa using this
  refine ⟨fun b k hk => ?_, fun b b' k k' q x x' h1 h2 e1 e2 => ?_, fun b q x e => ?_, fun g hgl => ⟨0, by unfold phiS; rw [if_pos hgl]⟩⟩
  · rcases mem b k hk with ⟨rfl, rfl⟩ | ⟨rfl, rfl⟩ | ⟨rfl, rfl⟩
    · refine ⟨0, 0, _, p0, a4, .cells a5 (vrs_names _) (fun h => by cases h) (fun n _ => ?_)⟩
      rw [← Array.length_toList, a5]; simp
    · refine ⟨9, 0, _, p9, b4, .cells b5 (.cons (.mp p11) .nil) (fun h => by cases h) (fun n _ => ?_)⟩
      rw [← Array.length_toList, b5]; simp
    · exact ⟨r, 0, _, p11, c3, .bag (c4 _)⟩
  · rcases mem b k h1 with ⟨rfl, _⟩ | ⟨rfl, _⟩ | ⟨rfl, _⟩ <;> rcases mem b' k' h2 with ⟨rfl, _⟩ | ⟨rfl, _⟩ | ⟨rfl, _⟩ <;> first | rfl | (exfalso; simp only [p0, p9, p11, Option.some.injEq, Prod.mk.injEq] at e1 e2; omega)
  · have hn : heap0.n = 12 := laid_n _
    rw [hn]
    unfold phiS at e
    split at e
    · cases e; exact ⟨by omega, by omega⟩
    · split at e
      · cases e; exact ⟨by omega, h.lt⟩
      · cases e
set_option maxRecDepth 1000000 in
theorem awake_any {r : Nat} {W : World} (h : Start r W) : Calls Tryz.prog 8 #[] W (BoolPost true W) := by
  obtain ⟨H', h1⟩ := gives_some runAwake
  refine (calls_of_run tabAll (by kernel_rfl) (hrS h) (args' := #[]) .nil h1).mono ?_
  rintro e w' ⟨v', rfl, φ', g1, g2, g3⟩
  refine ⟨by rw [g1.bool_inv], g3.os, g3.tape, g3.output, g3.size, fun k hk => g3.frame k hk fun b kb x hb hw => ?_⟩
  have := laid_mem _ b kb hb
  simp only [List.mem_cons, List.not_mem_nil, Prod.mk.injEq, or_false] at this
  rcases this with ⟨rfl, rfl⟩ | ⟨rfl, rfl⟩ | ⟨rfl, rfl⟩ <;> cases hw
end Go.Proofs.YtmaknbbijgihgaaGreatDoor
namespace Go.Proofs.YtmaknbbijgihgaaGreatDoor
open Go.RowKit Go.Shadow
/-! ### What the listed variables say of the world -/
abbrev Shp := Int × Bool × Int × Int × Bool × Bool
def shps : List Shp := [(1, true, 1, 1, false, false), (2, true, 0, 501, false, false), (3, false, 1, 1, true, true), (4, false, 1, 1, false, true), (5, true, 2, 2, true, false), (6, false, 1, 1, true, false), (7, false, 1, 1, true, false), (8, false, 0, 0, false, false), (9, false, 0, 0, false, false)]
def shapeD {H : Type} (x : Shp) : DataW H := .agg [.lit (.bool x.2.1), .lit (.int .i64 x.2.2.1), .lit (.int .i64 x.2.2.2.1), .lit (.bool x.2.2.2.2.1), .lit (.bool x.2.2.2.2.2)]
def shapeV (x : Shp) : Value := .agg #[.bool x.2.1, .int .i64 x.2.2.1, .int .i64 x.2.2.2.1, .bool x.2.2.2.2.1, .bool x.2.2.2.2.2]
def shapeA (x : Shp) : AV := .agg [.bool x.2.1, .int .i64 x.2.2.1, .int .i64 x.2.2.2.1, .bool x.2.2.2.2.1, .bool x.2.2.2.2.2]
def shapesL {H : Type} : List (Lit × DataW H) := shps.map fun x => (.int .i64 x.1, shapeD x)
theorem entries_eq : entries.map (fun e => (e.1, e.2.1)) = shps.map fun x => ((.int .i64 x.1, shapeA x) : AV × AV) := rfl
theorem shapeA_vr (φ : Phi) (x : Shp) : VR φ (shapeA x) (shapeV x) := .agg (.cons (.bool _) (.cons (.int _ _) (.cons (.int _ _) (.cons (.bool _) (.cons (.bool _) .nil)))))
theorem shps_keys : ∀ x, x ∈ shps → ∀ y, y ∈ shps → x.1 = y.1 → x = y := by decide
section
variable {H : Type} {enc : TypeId × Value → H} {W : World} {base : Nat} {sp : Nat → Bool} {held : Bool}
theorem c1of3 : Tryz.prog.cellsOf 3 = 1 := by kernel_rfl
theorem c1of4 : Tryz.prog.cellsOf 4 = 1 := by kernel_rfl
theorem c1of9 : Tryz.prog.cellsOf 9 = 1 := by kernel_rfl
theorem c5of640 : Tryz.prog.cellsOf 640 = 5 := by kernel_rfl
theorem c8of182 : Tryz.prog.cellsOf 182 = 8 := by kernel_rfl
theorem five {α : Type} : ∀ {l : List α}, l.length = 5 → ∃ a b c d e, l = [a, b, c, d, e]
  | [a, b, c, d, e], _ => ⟨a, b, c, d, e, rfl⟩
theorem eight {α : Type} : ∀ {l : List α}, l.length = 8 → ∃ a b c d e f g h, l = [a, b, c, d, e, f, g, h]
  | [a, b, c, d, e, f, g, h], _ => ⟨a, b, c, d, e, f, g, h, rfl⟩
theorem shape_val {n : Nat} {v : Value} {x : Shp} {q : List MemPlace} (hf : v.formed Tryz.prog 640 = true) (h : DataW.trod enc Tryz.prog W base sp held n 640 v.cells.toList = some (shapeD x, q)) : v = shapeV x := by
  have hv : ∃ cs, v = .agg cs := by
    cases v <;> first | exact ⟨_, rfl⟩ | (simp [Value.formed, Tryz.underlying640] at hf)
  obtain ⟨cs, rfl⟩ := hv
  obtain ⟨xs, m, _, hx, hl, hlen, hfs⟩ := DataW.trod_struct Tryz.underlying640 h
  have hcells : (Value.agg cs).cells = cs := rfl
  rw [hcells] at hl hfs
  rw [c5of640] at hl
  have k0 := hfs 0 { name := "named", type := 4, offset := 0, embedded := false, tag := "", pkgPath := "winch/ast", byteOffset := 0 } rfl
  have k1 := hfs 1 { name := "least", type := 3, offset := 1, embedded := false, tag := "", pkgPath := "winch/ast", byteOffset := 8 } rfl
  have k2 := hfs 2 { name := "most", type := 3, offset := 2, embedded := false, tag := "", pkgPath := "winch/ast", byteOffset := 16 } rfl
  have k3 := hfs 3 { name := "body", type := 4, offset := 3, embedded := false, tag := "", pkgPath := "winch/ast", byteOffset := 24 } rfl
  have k4 := hfs 4 { name := "arms", type := 4, offset := 4, embedded := false, tag := "", pkgPath := "winch/ast", byteOffset := 25 } rfl
  obtain ⟨l⟩ := cs
  obtain ⟨a0, a1, a2, a3, a4, hla⟩ := five (show l.length = 5 from hl)
  obtain ⟨x0, x1, x2, x3, x4, hxa⟩ := five (show xs.length = 5 from hlen)
  subst hla hxa
  · simp only [c1of3, c1of4, List.drop, List.take, List.getElem?_cons_zero, List.getElem?_cons_succ] at k0 k1 k2 k3 k4
    obtain ⟨b0, e0, f0⟩ := DataW.trod_bool Tryz.underlying4 k0
    obtain ⟨b1, e1, f1, _⟩ := DataW.trod_int Tryz.underlying3 k1
    obtain ⟨b2, e2, f2, _⟩ := DataW.trod_int Tryz.underlying3 k2
    obtain ⟨b3, e3, f3⟩ := DataW.trod_bool Tryz.underlying4 k3
    obtain ⟨b4, e4, f4⟩ := DataW.trod_bool Tryz.underlying4 k4
    subst f0 f1 f2 f3 f4
    simp only [shapeD, List.map, Prod.mk.injEq, DataW.agg.injEq, List.cons.injEq, DataW.lit.injEq, Lit.bool.injEq, Lit.int.injEq, true_and, and_true] at hx
    obtain ⟨⟨g0, g1, g2, g3, g4⟩, _⟩ := hx
    simp only [List.cons.injEq, and_true] at e0 e1 e2 e3 e4
    subst e0 e1 e2 e3 e4
    unfold shapeV
    rw [g0, g1, g2, g3, g4]
theorem names_open {fuel : Nat} {cs : List Value} {p : List MemPlace}
    (h : DataW.trod enc Tryz.prog W base sp held fuel 182 cs = some (.agg [.lit (.string []), .lit (.string [106, 111, 98]), .lit (.string [115, 116, 97, 114, 116]), .lit (.string [115, 116, 111, 112]), .lit (.string [112, 111, 119, 101, 114]), .lit (.string [102, 111, 114, 99, 101]), .lit (.string [102, 114, 101, 101]), .lit (.string [99, 104, 97, 110, 103, 101])], p)) :
    cs = [Value.string (nm 0), .string (nm 1), .string (nm 2), .string (nm 3), .string (nm 4), .string (nm 5), .string (nm 6), .string (nm 7)] := by
  obtain ⟨xs, m, _, hx, hl, hlen, hfs⟩ := DataW.trod_array Tryz.underlying182 h
  rw [c8of182] at hl
  have k0 := hfs 0 (by decide)
  have k1 := hfs 1 (by decide)
  have k2 := hfs 2 (by decide)
  have k3 := hfs 3 (by decide)
  have k4 := hfs 4 (by decide)
  have k5 := hfs 5 (by decide)
  have k6 := hfs 6 (by decide)
  have k7 := hfs 7 (by decide)
  obtain ⟨a0, a1, a2, a3, a4, a5, a6, a7, hla⟩ := eight hl
  obtain ⟨x0, x1, x2, x3, x4, x5, x6, x7, hxa⟩ := eight hlen
  subst hla hxa
  · simp only [c1of9, Nat.mul_one, List.drop, List.take, List.getElem?_cons_zero, List.getElem?_cons_succ] at k0 k1 k2 k3 k4 k5 k6 k7
    obtain ⟨b0, e0, f0, _⟩ := DataW.trod_string Tryz.underlying9 k0
    obtain ⟨b1, e1, f1, _⟩ := DataW.trod_string Tryz.underlying9 k1
    obtain ⟨b2, e2, f2, _⟩ := DataW.trod_string Tryz.underlying9 k2
    obtain ⟨b3, e3, f3, _⟩ := DataW.trod_string Tryz.underlying9 k3
    obtain ⟨b4, e4, f4, _⟩ := DataW.trod_string Tryz.underlying9 k4
    obtain ⟨b5, e5, f5, _⟩ := DataW.trod_string Tryz.underlying9 k5
    obtain ⟨b6, e6, f6, _⟩ := DataW.trod_string Tryz.underlying9 k6
    obtain ⟨b7, e7, f7, _⟩ := DataW.trod_string Tryz.underlying9 k7
    subst f0 f1 f2 f3 f4 f5 f6 f7
    simp only [List.map, Prod.mk.injEq, DataW.agg.injEq, List.cons.injEq, DataW.lit.injEq, Lit.string.injEq, true_and, and_true] at hx
    obtain ⟨⟨g0, g1, g2, g3, g4, g5, g6, g7⟩, _⟩ := hx
    simp only [List.cons.injEq, and_true] at e0 e1 e2 e3 e4 e5 e6 e7
    subst e0 e1 e2 e3 e4 e5 e6 e7
    have bs : ∀ (s t : ByteArray), t.data.toList = s.data.toList → s = t := fun s t h => by
      cases s; cases t; simp only [ByteArray.mk.injEq]; exact (Array.toList_inj.1 h).symm
    rw [bs b0 (nm 0) g0, bs b1 (nm 1) g1, bs b2 (nm 2) g2, bs b3 (nm 3) g3, bs b4 (nm 4) g4, bs b5 (nm 5) g5, bs b6 (nm 6) g6, bs b7 (nm 7) g7]
theorem shapes_open {fuel : Nat} {cs : List Value} {p : List MemPlace} (h : DataW.trod enc Tryz.prog W base sp held fuel 642 cs = some (.map shapesL, p)) :
    ∃ r es clock, cs = [.map (some r)] ∧ W.heap[r]? = some (.map es clock) ∧ ∀ φ, Bag φ entries es.toList := by
  rcases Go.WideElems.open_map Tryz.underlying642 h with ⟨_, hx⟩ | ⟨r, es, clock, n, _, hcs, hb, _, F, hx⟩
  · cases hx
  refine ⟨r, es, clock, hcs, hb, fun φ => ?_⟩
  simp only [Prod.mk.injEq, DataW.map.injEq] at hx
  have hp : (shapesL (H := H)).Perm (es.toList.map (Go.WideElems.rg Tryz.prog 3 (Go.WideElems.elemAt enc Tryz.prog W base sp held n 640))) := by
    rw [hx.1]; exact Go.WideShapes.sorted_perm _
  -- what stands in an entry
  have look : ∀ e, e ∈ es.toList → ∃ x, x ∈ shps ∧ e.key = .int .i64 x.1 ∧ e.val = shapeV x := fun e he => by
    obtain ⟨y, hy⟩ := F.reads e he
    have hm : y ∈ shapesL (H := H) := hp.mem_iff.2 (List.mem_map.2 ⟨e, he, Go.WideElems.rg_of hy⟩)
    obtain ⟨x, hx1, rfl⟩ := List.mem_map.1 hm
    have hk := Go.WideElems.rd_key hy
    obtain ⟨z, hz, hzd⟩ := Go.WideElems.rd_val hy
    simp only at hk hzd
    rw [Go.keyOf_int Tryz.underlying3] at hk
    refine ⟨x, hx1, ?_, ?_⟩
    · unfold mapKey at hk
      rw [Tryz.underlying3] at hk
      cases hkey : e.key <;> rw [hkey] at hk <;> first | (cases hk; done) | skip
      rename_i q m
      simp only at hk
      split at hk
      · rename_i hq
        cases hk
        rw [hq.1]
      · cases hk
    · unfold Go.WideElems.elemAt at hz
      split at hz
      · rename_i hf
        obtain ⟨z1, z2⟩ := z
        simp only at hzd
        subst hzd
        exact shape_val hf hz
      · cases hz
  have bring : ∀ x, x ∈ shps → ∃ e, e ∈ es.toList ∧ e.key = .int .i64 x.1 ∧ e.val = shapeV x := fun x hx1 => by
    have hm : ((.int .i64 x.1, shapeD x) : Lit × DataW H) ∈ shapesL (H := H) := List.mem_map.2 ⟨x, hx1, rfl⟩
    obtain ⟨e, he, hr⟩ := List.mem_map.1 (hp.mem_iff.1 hm)
    obtain ⟨x', h1, h2, h3⟩ := look e he
    obtain ⟨y, hy⟩ := F.reads e he
    rw [Go.WideElems.rg_of hy] at hr
    subst hr
    have hk := Go.WideElems.rd_key hy
    simp only at hk
    rw [Go.keyOf_int Tryz.underlying3, h2] at hk
    unfold mapKey at hk
    rw [Tryz.underlying3] at hk
    simp only at hk
    split at hk
    · simp only [Option.some.injEq, Lit.int.injEq, true_and] at hk
      have := shps_keys x' h1 x hx1 hk
      subst this
      exact ⟨e, he, h2, h3⟩
    · cases hk
  have ent : ∀ k v m, ((k, v, m) : AV × AV × Nat) ∈ entries → ∃ x, x ∈ shps ∧ k = .int .i64 x.1 ∧ v = shapeA x := fun k v m hm => by
    have : ((k, v) : AV × AV) ∈ entries.map fun e => (e.1, e.2.1) := List.mem_map.2 ⟨_, hm, rfl⟩
    rw [entries_eq] at this
    obtain ⟨x, h1, h2⟩ := List.mem_map.1 this
    cases h2
    exact ⟨x, h1, rfl, rfl⟩
  have tne : ∀ x, x ∈ shps → ∃ m, ((.int .i64 x.1, shapeA x, m) : AV × AV × Nat) ∈ entries := fun x hx1 => by
    have : ((.int .i64 x.1, shapeA x) : AV × AV) ∈ entries.map fun e => (e.1, e.2.1) := by rw [entries_eq]; exact List.mem_map.2 ⟨x, hx1, rfl⟩
    obtain ⟨⟨k, v, m⟩, h1, h2⟩ := List.mem_map.1 this
    cases h2
    exact ⟨m, h1⟩
  refine ⟨?_, .i64, fun e he => ?_, fun e he => ?_, fun n v m hm => ?_, fun e1 e2 h1 h2 hk => ?_, fun e n he hk => ?_⟩
  · have l1 := hp.length_eq
    have l2 := congrArg List.length entries_eq
    simp only [List.length_map] at l1 l2
    unfold shapesL at l1
    rw [List.length_map] at l1
    omega
  · obtain ⟨k, v, m⟩ := e
    obtain ⟨x, _, rfl, _⟩ := ent k v m he
    exact ⟨_, rfl⟩
  · obtain ⟨x, _, h2, _⟩ := look e he
    exact ⟨_, h2⟩
  · obtain ⟨x, h1, h2, rfl⟩ := ent _ v m hm
    cases h2
    obtain ⟨e, g1, g2, g3⟩ := bring x h1
    exact ⟨e, g1, g2, by rw [g3]; exact shapeA_vr φ x⟩
  · obtain ⟨x, a1, a2, a3⟩ := look e1 h1
    obtain ⟨y, b1, b2, b3⟩ := look e2 h2
    rw [a2, b2] at hk
    have := shps_keys x a1 y b1 (by injection hk)
    rw [a3, b3, this]
  · obtain ⟨x, a1, a2, a3⟩ := look e he
    rw [a2] at hk
    have hn : x.1 = n := by injection hk
    subst hn
    obtain ⟨m, hm⟩ := tne x a1
    exact ⟨_, m, hm⟩
end
end Go.Proofs.YtmaknbbijgihgaaGreatDoor
namespace Go.Proofs.YtmaknbbijgihgaaGreatDoor
open Go.RowKit
/-! ### What the arguments' readings say: entries -/
theorem exists_list {α : Type} {Q : Nat → α → Prop} : ∀ (n : Nat), (∀ i, i < n → ∃ x, Q i x) → ∃ l : List α, l.length = n ∧ ∀ i (h : i < l.length), Q i l[i]
  | 0, _ => ⟨[], rfl, fun i h => by cases h⟩
  | n + 1, h => by
    obtain ⟨l, h1, h2⟩ := exists_list n (fun i hi => h i (by omega))
    obtain ⟨x, hx⟩ := h n (by omega)
    refine ⟨l ++ [x], by simp [h1], fun i hi => ?_⟩
    by_cases e : i < l.length
    · rw [List.getElem_append_left e]; exact h2 i e
    · have : i = n := by simp at hi; omega
      subst this
      rw [List.getElem_append_right (by omega)]
      simpa [h1] using hx
theorem add_plain (b off n : Nat) : (⟨b, off, none⟩ : Addr).add n = ⟨b, off + n, none⟩ := by
  unfold Addr.add
  split
  · rename_i h; subst h; rfl
  · rfl
theorem three {α : Type} : ∀ {l : List α}, l.length = 3 → ∃ a b c, l = [a, b, c]
  | [a, b, c], _ => ⟨a, b, c, rfl⟩
theorem four {α : Type} : ∀ {l : List α}, l.length = 4 → ∃ a b c d, l = [a, b, c, d]
  | [a, b, c, d], _ => ⟨a, b, c, d, rfl⟩
theorem six {α : Type} : ∀ {l : List α}, l.length = 6 → ∃ a b c d e f, l = [a, b, c, d, e, f]
  | [a, b, c, d, e, f], _ => ⟨a, b, c, d, e, f, rfl⟩
theorem twelve {α : Type} : ∀ {l : List α}, l.length = 12 → ∃ a b c d e f g h i j k m, l = [a, b, c, d, e, f, g, h, i, j, k, m]
  | [a, b, c, d, e, f, g, h, i, j, k, m], _ => ⟨a, b, c, d, e, f, g, h, i, j, k, m, rfl⟩
theorem putCells_nil {w : World} {b off : Nat} : PutCells w b off [] := fun i h => absurd h (Nat.not_lt_zero _)
theorem entCells_nil {w : World} {b off : Nat} : EntCells w b off [] := fun i h => absurd h (Nat.not_lt_zero _)
section
variable {H : Type} {enc : TypeId × Value → H} {W : World} {sp : Nat → Bool} {held : Bool}
theorem c3of67 : Tryz.prog.cellsOf 67 = 3 := by kernel_rfl
theorem c12of41 : Tryz.prog.cellsOf 41 = 12 := by kernel_rfl
theorem c4of37 : Tryz.prog.cellsOf 37 = 4 := by kernel_rfl
theorem c4of39 : Tryz.prog.cellsOf 39 = 4 := by kernel_rfl
theorem c1of26 : Tryz.prog.cellsOf 26 = 1 := by kernel_rfl
theorem c1of35 : Tryz.prog.cellsOf 35 = 1 := by kernel_rfl
theorem put_open {n : Nat} {cs : List Value} {x : DataW H × List MemPlace} (h : DataW.trod enc Tryz.prog W 0 sp held n 67 cs = some x) : ∃ a s v : Int, cs = [.int .i64 a, .int .i64 s, .int .i64 v] := by
  obtain ⟨xs, m, _, _, hl, hlen, hfs⟩ := DataW.trod_struct Tryz.underlying67 h
  rw [c3of67] at hl
  have k0 := hfs 0 { name := "Area", type := 3, offset := 0, embedded := false, tag := "", pkgPath := "", byteOffset := 0 } rfl
  have k1 := hfs 1 { name := "Slot", type := 3, offset := 1, embedded := false, tag := "", pkgPath := "", byteOffset := 8 } rfl
  have k2 := hfs 2 { name := "Value", type := 3, offset := 2, embedded := false, tag := "", pkgPath := "", byteOffset := 16 } rfl
  obtain ⟨a0, a1, a2, rfl⟩ := three hl
  obtain ⟨x0, x1, x2, rfl⟩ := three (show xs.length = 3 from hlen)
  simp only [c1of3, List.drop, List.take, List.getElem?_cons_zero, List.getElem?_cons_succ] at k0 k1 k2
  obtain ⟨b0, e0, _, _⟩ := DataW.trod_int Tryz.underlying3 k0
  obtain ⟨b1, e1, _, _⟩ := DataW.trod_int Tryz.underlying3 k1
  obtain ⟨b2, e2, _, _⟩ := DataW.trod_int Tryz.underlying3 k2
  simp only [List.cons.injEq, and_true] at e0 e1 e2
  subst e0 e1 e2
  exact ⟨b0, b1, b2, rfl⟩
theorem puts_open {n : Nat} {v : Value} {x : DataW H × List MemPlace} (h : DataW.trod enc Tryz.prog W 0 sp held n 35 [v] = some x) : ∃ l, PutsAt W v l := by
  rcases DataW.trod_slice Tryz.underlying35 h with ⟨hv, _⟩ | ⟨a, len, cap, elems, rest, m, _, hv, _, _, hlc, hcm, hlen, hel, _, _⟩
  · cases hv
    exact ⟨[], none, 0, 0, 0, rfl, fun h => absurd rfl h, putCells_nil, Nat.zero_le _⟩
  · cases hv
    rw [c3of67] at hel
    have look : ∀ i, i < len → ∃ y : PD, W.cell? ((a.add (i * 3)).add 0) = some (.int .i64 y.a) ∧ W.cell? ((a.add (i * 3)).add 1) = some (.int .i64 y.s) ∧ W.cell? ((a.add (i * 3)).add 2) = some (.int .i64 y.v) := fun i hi => by
      have h1 := hel i hi
      have h2 : ∃ y, elems[i]? = some y := ⟨elems[i]'(by omega), List.getElem?_eq_getElem (by omega)⟩
      obtain ⟨y, hy⟩ := h2
      rw [hy] at h1
      obtain ⟨cs, h3, h4⟩ := Option.bind_eq_some_iff.1 h1
      obtain ⟨_, _, h5⟩ := World.cells?_some h3
      obtain ⟨a', s', v', rfl⟩ := put_open h4
      exact ⟨⟨a', s', v'⟩, h5 0 (by decide), h5 1 (by decide), h5 2 (by decide)⟩
    obtain ⟨l, hl, hq⟩ := exists_list len look
    subst hl
    by_cases h0 : l = []
    · subst h0
      exact ⟨[], some a, 0, 0, cap, rfl, fun h => absurd rfl h, putCells_nil, Nat.zero_le _⟩
    · have hp : 0 < l.length := List.length_pos_iff.2 h0
      obtain ⟨b, off, spot⟩ := a
      have hs : spot = none := by simpa [Addr.add] using World.cell?_spot (hq 0 hp).1
      subst hs
      refine ⟨l, some ⟨b, off, none⟩, b, off, cap, rfl, fun _ => rfl, fun i hi => ?_, Nat.le_trans hlc hcm⟩
      have := hq i hi
      rw [add_plain, add_plain, add_plain, add_plain] at this
      exact this
theorem entry_open {n : Nat} {cs : List Value} {x : DataW H × List MemPlace} (h : DataW.trod enc Tryz.prog W 0 sp held n 41 cs = some x) :
    ∃ (e : ED) (v1 v2 : Value), PutsAt W v1 e.puts ∧ PutsAt W v2 e.puts2 ∧ cs = [.int .i64 e.kind, .int .i64 e.n, .int .i64 e.cost, v1, .int .i64 e.j0, .int .i64 e.j1, .int .i64 e.j2, .int .i64 e.j3, .int .i64 e.err, .int .i64 e.mode, .int .i64 e.fault, v2] := by
  obtain ⟨xs, m, _, _, hl, hlen, hfs⟩ := DataW.trod_struct Tryz.underlying41 h
  rw [c12of41] at hl
  have k0 := hfs 0 { name := "Move", type := 37, offset := 0, embedded := false, tag := "", pkgPath := "", byteOffset := 0 } rfl
  have k1 := hfs 1 { name := "Job", type := 39, offset := 4, embedded := false, tag := "", pkgPath := "", byteOffset := 48 } rfl
  have k2 := hfs 2 { name := "Err", type := 26, offset := 8, embedded := false, tag := "", pkgPath := "", byteOffset := 80 } rfl
  have k3 := hfs 3 { name := "Mode", type := 3, offset := 9, embedded := false, tag := "", pkgPath := "", byteOffset := 88 } rfl
  have k4 := hfs 4 { name := "Fault", type := 3, offset := 10, embedded := false, tag := "", pkgPath := "", byteOffset := 96 } rfl
  have k5 := hfs 5 { name := "Puts", type := 35, offset := 11, embedded := false, tag := "", pkgPath := "", byteOffset := 104 } rfl
  obtain ⟨a0, a1, a2, a3, a4, a5, a6, a7, a8, a9, a10, a11, rfl⟩ := twelve hl
  obtain ⟨x0, x1, x2, x3, x4, x5, rfl⟩ := six (show xs.length = 6 from hlen)
  simp only [c1of3, c4of37, c4of39, c1of26, c1of35, List.drop, List.take, List.getElem?_cons_zero, List.getElem?_cons_succ] at k0 k1 k2 k3 k4 k5
  obtain ⟨ys, m1, _, _, hl1, hlen1, hf1⟩ := DataW.trod_struct Tryz.underlying37 k0
  obtain ⟨zs, m2, _, _, hl2, hlen2, hf2⟩ := DataW.trod_struct Tryz.underlying39 k1
  have p0 := hf1 0 { name := "Kind", type := 3, offset := 0, embedded := false, tag := "", pkgPath := "", byteOffset := 0 } rfl
  have p1 := hf1 1 { name := "N", type := 3, offset := 1, embedded := false, tag := "", pkgPath := "", byteOffset := 8 } rfl
  have p2 := hf1 2 { name := "Cost", type := 3, offset := 2, embedded := false, tag := "", pkgPath := "", byteOffset := 16 } rfl
  have p3 := hf1 3 { name := "Puts", type := 35, offset := 3, embedded := false, tag := "", pkgPath := "", byteOffset := 24 } rfl
  have q0 := hf2 0 { name := "Task", type := 3, offset := 0, embedded := false, tag := "", pkgPath := "", byteOffset := 0 } rfl
  have q1 := hf2 1 { name := "Due", type := 3, offset := 1, embedded := false, tag := "", pkgPath := "", byteOffset := 8 } rfl
  have q2 := hf2 2 { name := "Begin", type := 3, offset := 2, embedded := false, tag := "", pkgPath := "", byteOffset := 16 } rfl
  have q3 := hf2 3 { name := "End", type := 3, offset := 3, embedded := false, tag := "", pkgPath := "", byteOffset := 24 } rfl
  obtain ⟨y0, y1, y2, y3, rfl⟩ := four (show ys.length = 4 from hlen1)
  obtain ⟨z0, z1, z2, z3, rfl⟩ := four (show zs.length = 4 from hlen2)
  simp only [c1of3, c1of35, List.drop, List.take, List.getElem?_cons_zero, List.getElem?_cons_succ] at p0 p1 p2 p3 q0 q1 q2 q3
  obtain ⟨i0, e0, _, _⟩ := DataW.trod_int Tryz.underlying3 p0
  obtain ⟨i1, e1, _, _⟩ := DataW.trod_int Tryz.underlying3 p1
  obtain ⟨i2, e2, _, _⟩ := DataW.trod_int Tryz.underlying3 p2
  obtain ⟨i4, e4, _, _⟩ := DataW.trod_int Tryz.underlying3 q0
  obtain ⟨i5, e5, _, _⟩ := DataW.trod_int Tryz.underlying3 q1
  obtain ⟨i6, e6, _, _⟩ := DataW.trod_int Tryz.underlying3 q2
  obtain ⟨i7, e7, _, _⟩ := DataW.trod_int Tryz.underlying3 q3
  obtain ⟨i8, e8, _, _⟩ := DataW.trod_int Tryz.underlying26 k2
  obtain ⟨i9, e9, _, _⟩ := DataW.trod_int Tryz.underlying3 k3
  obtain ⟨i10, e10, _, _⟩ := DataW.trod_int Tryz.underlying3 k4
  obtain ⟨l1, hp1⟩ := puts_open p3
  obtain ⟨l2, hp2⟩ := puts_open k5
  simp only [List.cons.injEq, and_true] at e0 e1 e2 e4 e5 e6 e7 e8 e9 e10
  subst e0 e1 e2 e4 e5 e6 e7 e8 e9 e10
  exact ⟨⟨i0, i1, i2, l1, i4, i5, i6, i7, i8, i9, i10, l2⟩, a3, a11, hp1, hp2, rfl⟩
theorem ents_open {n : Nat} {v : Value} {x : DataW H × List MemPlace} (h : DataW.trod enc Tryz.prog W 0 sp held n 22 [v] = some x) : (∃ es, EntsAt W v es) ∧ ∀ ao k cap, v = .slice ao k cap → k ≤ cap := by
  rcases DataW.trod_slice Tryz.underlying22 h with ⟨hv, _⟩ | ⟨a, len, cap, elems, rest, m, _, hv, _, _, hlc, hcm, hlen, hel, _, _⟩
  · cases hv
    exact ⟨⟨[], none, 0, 0, 0, rfl, fun h => absurd rfl h, entCells_nil, Nat.zero_le _⟩, fun _ _ _ e => by cases e; exact Nat.le_refl _⟩
  · cases hv
    refine ⟨?_, fun _ _ _ e => by cases e; exact hlc⟩
    rw [c12of41] at hel
    have look : ∀ i, i < len → ∃ e : ED, ∃ v1 v2 : Value, PutsAt W v1 e.puts ∧ PutsAt W v2 e.puts2 ∧
        W.cell? ((a.add (i * 12)).add 0) = some (.int .i64 e.kind) ∧ W.cell? ((a.add (i * 12)).add 1) = some (.int .i64 e.n) ∧ W.cell? ((a.add (i * 12)).add 2) = some (.int .i64 e.cost) ∧ W.cell? ((a.add (i * 12)).add 3) = some v1 ∧
        W.cell? ((a.add (i * 12)).add 4) = some (.int .i64 e.j0) ∧ W.cell? ((a.add (i * 12)).add 5) = some (.int .i64 e.j1) ∧ W.cell? ((a.add (i * 12)).add 6) = some (.int .i64 e.j2) ∧ W.cell? ((a.add (i * 12)).add 7) = some (.int .i64 e.j3) ∧
        W.cell? ((a.add (i * 12)).add 8) = some (.int .i64 e.err) ∧ W.cell? ((a.add (i * 12)).add 9) = some (.int .i64 e.mode) ∧ W.cell? ((a.add (i * 12)).add 10) = some (.int .i64 e.fault) ∧ W.cell? ((a.add (i * 12)).add 11) = some v2 := fun i hi => by
      have h1 := hel i hi
      have h2 : ∃ y, elems[i]? = some y := ⟨elems[i]'(by omega), List.getElem?_eq_getElem (by omega)⟩
      obtain ⟨y, hy⟩ := h2
      rw [hy] at h1
      obtain ⟨cs, h3, h4⟩ := Option.bind_eq_some_iff.1 h1
      obtain ⟨_, _, h5⟩ := World.cells?_some h3
      obtain ⟨e, v1, v2, g1, g2, rfl⟩ := entry_open h4
      exact ⟨e, v1, v2, g1, g2, h5 0 (by decide), h5 1 (by decide), h5 2 (by decide), h5 3 (by decide), h5 4 (by decide), h5 5 (by decide), h5 6 (by decide), h5 7 (by decide), h5 8 (by decide), h5 9 (by decide), h5 10 (by decide), h5 11 (by decide)⟩
    obtain ⟨l, hl, hq⟩ := exists_list len look
    subst hl
    by_cases h0 : l = []
    · subst h0
      exact ⟨[], some a, 0, 0, cap, rfl, fun h => absurd rfl h, entCells_nil, Nat.zero_le _⟩
    · have hp : 0 < l.length := List.length_pos_iff.2 h0
      obtain ⟨b, off, spot⟩ := a
      obtain ⟨_, _, _, _, hc, _⟩ := hq 0 hp
      have hs : spot = none := by simpa [Addr.add] using World.cell?_spot hc
      subst hs
      refine ⟨l, some ⟨b, off, none⟩, b, off, cap, rfl, fun _ => rfl, fun i hi => ?_, Nat.le_trans hlc hcm⟩
      have := hq i hi
      simp only [add_plain] at this
      exact this
end
end Go.Proofs.YtmaknbbijgihgaaGreatDoor
