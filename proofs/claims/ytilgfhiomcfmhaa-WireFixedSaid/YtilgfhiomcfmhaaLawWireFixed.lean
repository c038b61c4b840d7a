/- WireFixed: of every input it answers true, and what it reads stays as it was; no condition. -/
import Derived.Test.YtilgfhiomcfmhaaRows
import Derived.Test.YtilgfhiomcfmhaaPureFixedLaw
import Derived.Test.YtilgfhiomcfmhaaStru
import Derived.WalkKit
import Derived.ProofKit
import Derived.OpenShut
import Derived.ShutString
import Derived.ChangeOld
import Derived.Below
import Derived.SizedLaws
import Derived.Test.YtilgfhiomcfmhaaWSized
namespace Go.Proofs.Ytilgfhiomcfmhaa.wireFixed
open Go.ChangeShapes Go.WideShapes Go.ChangeAt Go.RowKit
open Go.ChangeMaps (open_string shut_string)
set_option linter.unusedVariables false
set_option linter.unusedSimpArgs false
theorem own : ownKnob Try.prog.godebug = none := by kernel_rfl
theorem laidOut : laidOutB Try.prog = true := by kernel_rfl
def IsRow (k : IntKind) (w : World) (a : Option Addr) (len cap : Nat) (zs : List Int) : Prop :=
  (a = none ∧ len = 0 ∧ cap = 0 ∧ zs = []) ∨
  ∃ x, a = some x ∧ len ≤ cap ∧ cap ≤ maxLen ∧ zs.length = cap ∧ (∀ i, i < zs.length → w.cell? (x.add i) = some (.int k (zs.getD i 0))) ∧ ∀ n ∈ zs, (Lit.int k n).wf = true
set_option maxRecDepth 100000 in
theorem lifted (os : Os) (started : os.Started) (H : Type) (enc : TypeId × Value → H) :
    ReturnsInHanded {} Try.checked os 7 .any (Rows.wireFixedSpec.pre6 enc Try.prog Try.f7 Rows.wireFixedRow.domain false) (Rows.wireFixedSpec.post enc Try.prog Try.f7 false true false false) := by
  refine returnsInHanded_of_change_sized (C := Try.checked) own started (by kernel_rfl) Try.func7
    (ChangeSpec.witness6 (enc := enc) (C := Try.checked) false ⟨#[], #[.agg #[.int .u16 0], .int .u32 0, .agg #[.int .u64 0, .int .u16 0], .bool false, .agg #[.int .u32 0, .int .u64 0], .slice none 0 0], []⟩ 8 (by kernel_rfl) (by kernel_rfl) (by kernel_rfl) (by kernel_rfl)) ?_
  intro W base args ds gs before hval0 hW hcnd hsz0 _
  have hsz : (DataW.weightsEach Try.prog (Try.f7.params.toList ++ Rows.wireFixedSpec.plain.varTypes Try.prog) (ds ++ gs)).all (· ≤ reachBytes) = true := hsz0
  have hval : ∀ (j : Nat) t v, Try.f7.params[j]? = some t → args[j]? = some v → Value.okWide Try.prog W .any base t v := hval0
  have hW' := hW
  obtain ⟨p, q, hA0, hV, rfl, hfz, hnd⟩ := hW
  have hA : DataW.TrodAll enc Try.prog W 0 (fun _ => true) true Try.f7.params.toList args.toList ds p := hA0
  rw [Try.params7] at hA hval hsz
  obtain ⟨v0, vs0, d0, ds0, p0, q0, hargs, rfl, rfl, h0, r0⟩ := trodAll_cons hA
  obtain ⟨v1, vs1, d1, ds1, p1, q1, rfl, rfl, rfl, h1, r1⟩ := trodAll_cons r0
  obtain ⟨v2, vs2, d2, ds2, p2, q2, rfl, rfl, rfl, h2, r2⟩ := trodAll_cons r1
  obtain ⟨v3, vs3, d3, ds3, p3, q3, rfl, rfl, rfl, h3, r3⟩ := trodAll_cons r2
  obtain ⟨v4, vs4, d4, ds4, p4, q4, rfl, rfl, rfl, h4, r4⟩ := trodAll_cons r3
  obtain ⟨v5, vs5, d5, ds5, p5, q5, rfl, rfl, rfl, h5, r5⟩ := trodAll_cons r4
  obtain ⟨rfl, rfl, rfl⟩ := trodAll_nil r5
  obtain rfl : args = #[v0, v1, v2, v3, v4, v5] := by cases args; simp_all
  obtain ⟨rfl, rfl⟩ := trodVars_none hV
  have k0 := h0
  have lt0 : ∀ x ∈ p0, x.block < W.heap.size := by obtain ⟨m, hm⟩ := k0; exact DataW.trod_lt m _ _ _ hm
  obtain ⟨l0, rfl, hl0, hf0⟩ := Stru.open_fields Try.underlying55 (by kernel_rfl) (by kernel_rfl) (hval 0 55 v0 rfl rfl) h0
  have hl0' : l0.length = 1 := hl0
  obtain ⟨c0_0, n0_0, y0_0, e0_0, t0_0⟩ := hf0 0 _ rfl
  obtain ⟨x0_0, g0_0, -, w0_0⟩ := DataW.trod_int Try.underlying36 t0_0
  obtain rfl : c0_0 = .int .u16 x0_0 := by simpa using g0_0
  obtain rfl : l0 = [.int .u16 x0_0] := List.ext_getElem? fun j => by
    match j with
    | 0 => exact e0_0
    | j + 1 => rw [List.getElem?_eq_none (by omega)]; rfl
  obtain ⟨a1, rfl, rfl, rfl, w1⟩ := open_int Try.underlying25 (hval 1 25 v1 rfl rfl) h1
  have k2 := h2
  have lt2 : ∀ x ∈ p2, x.block < W.heap.size := by obtain ⟨m, hm⟩ := k2; exact DataW.trod_lt m _ _ _ hm
  obtain ⟨l2, rfl, hl2, hf2⟩ := Stru.open_fields Try.underlying57 (by kernel_rfl) (by kernel_rfl) (hval 2 57 v2 rfl rfl) h2
  have hl2' : l2.length = 2 := hl2
  obtain ⟨c2_0, n2_0, y2_0, e2_0, t2_0⟩ := hf2 0 _ rfl
  obtain ⟨x2_0, g2_0, -, w2_0⟩ := DataW.trod_int Try.underlying37 t2_0
  obtain rfl : c2_0 = .int .u64 x2_0 := by simpa using g2_0
  obtain ⟨c2_1, n2_1, y2_1, e2_1, t2_1⟩ := hf2 1 _ rfl
  obtain ⟨x2_1, g2_1, -, w2_1⟩ := DataW.trod_int Try.underlying36 t2_1
  obtain rfl : c2_1 = .int .u16 x2_1 := by simpa using g2_1
  obtain rfl : l2 = [.int .u64 x2_0, .int .u16 x2_1] := List.ext_getElem? fun j => by
    match j with
    | 0 => exact e2_0
    | 1 => exact e2_1
    | j + 2 => rw [List.getElem?_eq_none (by omega)]; rfl
  obtain ⟨a3, rfl, rfl, rfl⟩ := open_bool Try.underlying4 (hval 3 4 v3 rfl rfl) h3
  have k4 := h4
  have lt4 : ∀ x ∈ p4, x.block < W.heap.size := by obtain ⟨m, hm⟩ := k4; exact DataW.trod_lt m _ _ _ hm
  obtain ⟨l4, rfl, hl4, hf4⟩ := Stru.open_fields Try.underlying59 (by kernel_rfl) (by kernel_rfl) (hval 4 59 v4 rfl rfl) h4
  have hl4' : l4.length = 2 := hl4
  obtain ⟨c4_0, n4_0, y4_0, e4_0, t4_0⟩ := hf4 0 _ rfl
  obtain ⟨x4_0, g4_0, -, w4_0⟩ := DataW.trod_int Try.underlying25 t4_0
  obtain rfl : c4_0 = .int .u32 x4_0 := by simpa using g4_0
  obtain ⟨c4_1, n4_1, y4_1, e4_1, t4_1⟩ := hf4 1 _ rfl
  obtain ⟨x4_1, g4_1, -, w4_1⟩ := DataW.trod_int Try.underlying37 t4_1
  obtain rfl : c4_1 = .int .u64 x4_1 := by simpa using g4_1
  obtain rfl : l4 = [.int .u32 x4_0, .int .u64 x4_1] := List.ext_getElem? fun j => by
    match j with
    | 0 => exact e4_0
    | 1 => exact e4_1
    | j + 2 => rw [List.getElem?_eq_none (by omega)]; rfl
  obtain ⟨a5, len5, cap5, rfl⟩ := okWide_slice Try.underlying31 (hval 5 31 v5 rfl rfl)
  have k5 := h5
  have lt5 : ∀ x ∈ p5, x.block < W.heap.size := by obtain ⟨m, hm⟩ := k5; exact DataW.trod_lt m _ _ _ hm
  obtain ⟨z5, w5⟩ : ∃ zs, IsRow .u8 W a5 len5 cap5 zs := by
    obtain ⟨fuel, hf⟩ := h5
    rcases open_ints Try.underlying31 Try.underlying5 (by kernel_rfl) hf with ⟨hcs, _⟩ | ⟨x, l, c, zs, hcs, _, hl, hm, hz, _, hcell, hwz⟩
    · simp [Value.cells] at hcs
      obtain ⟨rfl, rfl, rfl⟩ := hcs
      exact ⟨[], .inl ⟨rfl, rfl, rfl, rfl⟩⟩
    · simp [Value.cells] at hcs
      obtain ⟨rfl, rfl, rfl⟩ := hcs
      exact ⟨zs, .inr ⟨_, rfl, hl, hm, by simpa using hz, hcell, hwz⟩⟩
  have y5 : len5 * 1 ≤ 140737488351232 := Go.Proofs.YtilgfhiomcfmhaaW.PrintWords.sized_ints hsz (j := 5) (t := 31) rfl rfl Try.underlying31 Try.underlying5 (by kernel_rfl) (by kernel_rfl) h5
  clear hA0 hval0 hsz0 hsz
  refine (PureZ.WireFixed_row x0_0 a1 x2_0 x2_1 a3 x4_0 x4_1 a5 len5 cap5 z5 W w0_0 w1 w2_0 w2_1 w4_0 w4_1 w5 y5).mono fun e W' ⟨he, bel⟩ => ?_
  subst he
  exact ⟨_, rfl, _, _, _, [], _, [], hW', trodAll_mk1 (shut_bool Try.underlying4 _), (trodAll_cons_mk (Below.trod laidOut (by kernel_rfl) (of_decide_eq_true (by kernel_rfl)) k0 bel lt0) (trodAll_cons_mk (shut_int Try.underlying25 w1) (trodAll_cons_mk (Below.trod laidOut (by kernel_rfl) (of_decide_eq_true (by kernel_rfl)) k2 bel lt2) (trodAll_cons_mk (shut_bool Try.underlying4 _) (trodAll_cons_mk (Below.trod laidOut (by kernel_rfl) (of_decide_eq_true (by kernel_rfl)) k4 bel lt4) (trodAll_cons_mk (Below.trod laidOut (by kernel_rfl) (of_decide_eq_true (by kernel_rfl)) k5 bel lt5) trodAll_mk0)))))), rfl, bel.frame _, fun h => by cases h⟩
theorem over : Rows.wireFixedRow.holds Try.pinned (OpenSpec.ofChange Rows.wireFixedSpec) :=
  OpenClaim.holds_of_wide 7 Try.f7 rfl rfl rfl rfl rfl rfl rfl ⟨rfl, rfl, rfl, rfl, rfl⟩ rfl rfl rfl rfl rfl (by kernel_rfl) Try.func7 (by kernel_rfl)
    (of_decide_eq_true (by kernel_rfl)) (by unfold Func.isWrapper; first | (rw [if_pos (by decide +kernel)]; kernel_rfl) | (rw [if_neg (by decide +kernel)]; exact ⟨rfl, rfl⟩))
    (fun os started H enc _ => lifted os started H enc)
theorem proved : Rows.WireFixedSaid := over
#print axioms proved
end Go.Proofs.Ytilgfhiomcfmhaa.wireFixed
namespace Go.Proofs.Ytilgfhiomcfmhaa
/-- The row, under a short name, for the claim. -/
theorem wireFixed_holds : Rows.WireFixedSaid := wireFixed.proved
end Go.Proofs.Ytilgfhiomcfmhaa
