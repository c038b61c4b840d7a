/- FrameNobody: of every input it answers true, and what it reads stays as it was; no condition. -/
import Derived.Test.YtajdplhmbigolaaRows
import Derived.Test.YtajdplhmbigolaaFrq
import Derived.Test.YtajdplhmbigolaaStru
import Derived.WalkKit
import Derived.ProofKit
import Derived.OpenShut
import Derived.ShutString
import Derived.ChangeOld
import Derived.Below
import Derived.SizedLaws
import Derived.Test.YtajdplhmbigolaaWSized
namespace Go.Proofs.Ytajdplhmbigolaa.frameNobody
open Go.ChangeShapes Go.WideShapes Go.ChangeAt Go.RowKit
open Go.ChangeMaps (open_string shut_string)
set_option linter.unusedVariables false
set_option linter.unusedSimpArgs false
theorem own : ownKnob Try.prog.godebug = none := by kernel_rfl
theorem laidOut : laidOutB Try.prog = true := by kernel_rfl
def IsRow (k : IntKind) (w : World) (a : Option Addr) (len cap : Nat) (zs : List Int) : Prop :=
  (a = none ∧ len = 0 ∧ cap = 0 ∧ zs = []) ∨
  ∃ x, a = some x ∧ len ≤ cap ∧ cap ≤ maxLen ∧ zs.length = cap ∧ (∀ i, i < zs.length → w.cell? (x.add i) = some (.int k (zs.getD i 0))) ∧ ∀ n ∈ zs, (Lit.int k n).wf = true
set_option maxRecDepth 100000 in
theorem lifted (os : Os) (started : os.Started) (H : Type) (enc : TypeId × Value → H) :
    ReturnsInHanded {} Try.checked os 7 .any (Rows.frameNobodySpec.pre6 enc Try.prog Try.f7 Rows.frameNobodyRow.domain false) (Rows.frameNobodySpec.post enc Try.prog Try.f7 false true false false) := by
  refine returnsInHanded_of_change_sized (C := Try.checked) own started (by kernel_rfl) Try.func7
    (ChangeSpec.witness6 (enc := enc) (C := Try.checked) false ⟨#[], #[.agg #[.int .i64 0, .slice none 0 0, .int .u32 0, .bool false, .bool false, .int .i64 0]], []⟩ 8 (by kernel_rfl) (by kernel_rfl) (by kernel_rfl) (by kernel_rfl)) ?_
  intro W base args ds gs before hval0 hW hcnd hsz0 _
  have hsz : (DataW.weightsEach Try.prog (Try.f7.params.toList ++ Rows.frameNobodySpec.plain.varTypes Try.prog) (ds ++ gs)).all (· ≤ reachBytes) = true := hsz0
  have hval : ∀ (j : Nat) t v, Try.f7.params[j]? = some t → args[j]? = some v → Value.okWide Try.prog W .any base t v := hval0
  have hW' := hW
  obtain ⟨p, q, hA0, hV, rfl, hfz, hnd⟩ := hW
  have hA : DataW.TrodAll enc Try.prog W 0 (fun _ => true) true Try.f7.params.toList args.toList ds p := hA0
  rw [Try.params7] at hA hval hsz
  obtain ⟨v0, vs0, d0, ds0, p0, q0, hargs, rfl, rfl, h0, r0⟩ := trodAll_cons hA
  obtain ⟨rfl, rfl, rfl⟩ := trodAll_nil r0
  obtain rfl : args = #[v0] := by cases args; simp_all
  obtain ⟨rfl, rfl⟩ := trodVars_none hV
  have k0 := h0
  have lt0 : ∀ x ∈ p0, x.block < W.heap.size := by obtain ⟨m, hm⟩ := k0; exact DataW.trod_lt m _ _ _ hm
  obtain ⟨l0, rfl, hl0, hf0⟩ := Stru.open_fields Try.underlying54 (by kernel_rfl) (by kernel_rfl) (hval 0 54 v0 rfl rfl) h0
  have hl0' : l0.length = 6 := hl0
  obtain ⟨c0_0, n0_0, y0_0, e0_0, t0_0⟩ := hf0 0 _ rfl
  obtain ⟨x0_0, g0_0, -, w0_0⟩ := DataW.trod_int Try.underlying3 t0_0
  obtain rfl : c0_0 = .int .i64 x0_0 := by simpa using g0_0
  obtain ⟨c0_1, n0_1, y0_1, e0_1, t0_1⟩ := hf0 1 _ rfl
  obtain ⟨a0_1, len0_1, cap0_1, rfl⟩ : ∃ a len cap, c0_1 = .slice a len cap := by
    rcases DataW.trod_slice Try.underlying22 t0_1 with ⟨g, _⟩ | ⟨a, len, cap, _, _, _, _, g, _⟩ <;> exact ⟨_, _, _, by simpa using g⟩
  obtain ⟨c0_2, n0_2, y0_2, e0_2, t0_2⟩ := hf0 2 _ rfl
  obtain ⟨x0_2, g0_2, -, w0_2⟩ := DataW.trod_int Try.underlying34 t0_2
  obtain rfl : c0_2 = .int .u32 x0_2 := by simpa using g0_2
  obtain ⟨c0_3, n0_3, y0_3, e0_3, t0_3⟩ := hf0 3 _ rfl
  obtain ⟨x0_3, g0_3, -⟩ := DataW.trod_bool Try.underlying4 t0_3
  obtain rfl : c0_3 = .bool x0_3 := by simpa using g0_3
  obtain ⟨c0_4, n0_4, y0_4, e0_4, t0_4⟩ := hf0 4 _ rfl
  obtain ⟨x0_4, g0_4, -⟩ := DataW.trod_bool Try.underlying4 t0_4
  obtain rfl : c0_4 = .bool x0_4 := by simpa using g0_4
  obtain ⟨c0_5, n0_5, y0_5, e0_5, t0_5⟩ := hf0 5 _ rfl
  obtain ⟨x0_5, g0_5, -, w0_5⟩ := DataW.trod_int Try.underlying3 t0_5
  obtain rfl : c0_5 = .int .i64 x0_5 := by simpa using g0_5
  obtain rfl : l0 = [.int .i64 x0_0, .slice a0_1 len0_1 cap0_1, .int .u32 x0_2, .bool x0_3, .bool x0_4, .int .i64 x0_5] := List.ext_getElem? fun j => by
    match j with
    | 0 => exact e0_0
    | 1 => exact e0_1
    | 2 => exact e0_2
    | 3 => exact e0_3
    | 4 => exact e0_4
    | 5 => exact e0_5
    | j + 6 => rw [List.getElem?_eq_none (by omega)]; rfl
  clear hA0 hval0 hsz0 hsz
  refine (Fra.FrameNobody_walk x0_0 x0_2 x0_5 a0_1 len0_1 cap0_1 x0_3 x0_4 W).mono fun e W' ⟨he, bel⟩ => ?_
  subst he
  exact ⟨_, rfl, _, _, _, [], _, [], hW', trodAll_mk1 (shut_bool Try.underlying4 _), (trodAll_cons_mk (Below.trod laidOut (by kernel_rfl) (of_decide_eq_true (by kernel_rfl)) k0 bel lt0) trodAll_mk0), rfl, bel.frame _, fun h => by cases h⟩
theorem over : Rows.frameNobodyRow.holds Try.pinned (OpenSpec.ofChange Rows.frameNobodySpec) :=
  OpenClaim.holds_of_wide 7 Try.f7 rfl rfl rfl rfl rfl rfl rfl ⟨rfl, rfl, rfl, rfl, rfl⟩ rfl rfl rfl rfl rfl (by kernel_rfl) Try.func7 (by kernel_rfl)
    (of_decide_eq_true (by kernel_rfl)) (by unfold Func.isWrapper; first | (rw [if_pos (by decide +kernel)]; kernel_rfl) | (rw [if_neg (by decide +kernel)]; exact ⟨rfl, rfl⟩))
    (fun os started H enc _ => lifted os started H enc)
theorem proved : Rows.FrameNobodySaid := over
#print axioms proved
end Go.Proofs.Ytajdplhmbigolaa.frameNobody
namespace Go.Proofs.Ytajdplhmbigolaa
/-- The row, under a short name, for the claim. -/
theorem frameNobody_holds : Rows.FrameNobodySaid := frameNobody.proved
end Go.Proofs.Ytajdplhmbigolaa
