/- WireBack: of every input it answers true, and what it reads stays as it was; on the condition that what it reads is of bulk at most 1048576. -/
import Derived.Test.YtilgfhiomcfmhaaRows
import Derived.Test.YtilgfhiomcfmhaaWbr
import Derived.Test.YtilgfhiomcfmhaaStrb
import Derived.WalkKit
import Derived.ProofKit
import Derived.OpenShut
import Derived.ShutString
import Derived.ChangeOld
import Derived.Below
import Derived.SizedLaws
import Derived.Test.YtilgfhiomcfmhaaWSized
import Derived.Test.YtilgfhiomcfmhaaBulk
import Derived.Deep.CondSized
import Derived.JoinedCond
namespace Go.Proofs.Ytilgfhiomcfmhaa.wireBack
open Go.ChangeShapes Go.WideShapes Go.ChangeAt Go.RowKit
open Go.ChangeMaps (open_string shut_string)
set_option linter.unusedVariables false
set_option linter.unusedSimpArgs false
theorem own : ownKnob Try.prog.godebug = none := by kernel_rfl
theorem laidOut : laidOutB Try.prog = true := by kernel_rfl
def IsRow (k : IntKind) (w : World) (a : Option Addr) (len cap : Nat) (zs : List Int) : Prop :=
  (a = none ∧ len = 0 ∧ cap = 0 ∧ zs = []) ∨
  ∃ x, a = some x ∧ len ≤ cap ∧ cap ≤ maxLen ∧ zs.length = cap ∧ (∀ i, i < zs.length → w.cell? (x.add i) = some (.int k (zs.getD i 0))) ∧ ∀ n ∈ zs, (Lit.int k n).wf = true
set_option maxRecDepth 100000 in
theorem contract (H : Type) (enc : TypeId × Value → H) (W : World) (base : Nat) (args : Array Value) (ds gs : List (DataW H)) (before : List MemPlace)
    (hval0 : ∀ (j : Nat) t v, Try.f10.params[j]? = some t → args[j]? = some v → Value.okWide Try.prog W .any base t v)
    (hW : DataW.Whole enc Try.prog Try.f10.params.toList Rows.wireBackSpec.vars false W args.toList ds gs before) (hk : Rows.uptoSmall H (ds ++ gs) = true)
    (hsz0 : (DataW.weightsEach Try.prog (Try.f10.params.toList ++ Rows.wireBackSpec.plain.varTypes Try.prog) (ds ++ gs)).all (· ≤ reachBytes) = true) :
    Calls Try.prog 10 args W fun e W' => ∃ v, e = .returned v ∧ Rows.wireBackSpec.post enc Try.prog Try.f10 false true false false W args v W' := by
  have hsz : (DataW.weightsEach Try.prog (Try.f10.params.toList ++ Rows.wireBackSpec.plain.varTypes Try.prog) (ds ++ gs)).all (· ≤ reachBytes) = true := hsz0
  have hval : ∀ (j : Nat) t v, Try.f10.params[j]? = some t → args[j]? = some v → Value.okWide Try.prog W .any base t v := hval0
  have hW' := hW
  obtain ⟨p, q, hA0, hV, rfl, hfz, hnd⟩ := hW
  have hA : DataW.TrodAll enc Try.prog W 0 (fun _ => true) true Try.f10.params.toList args.toList ds p := hA0
  rw [Try.params10] at hA hval hsz
  obtain ⟨v0, vs0, d0, ds0, p0, q0, hargs, rfl, rfl, h0, r0⟩ := trodAll_cons hA
  obtain ⟨v1, vs1, d1, ds1, p1, q1, rfl, rfl, rfl, h1, r1⟩ := trodAll_cons r0
  obtain ⟨v2, vs2, d2, ds2, p2, q2, rfl, rfl, rfl, h2, r2⟩ := trodAll_cons r1
  obtain ⟨v3, vs3, d3, ds3, p3, q3, rfl, rfl, rfl, h3, r3⟩ := trodAll_cons r2
  obtain ⟨v4, vs4, d4, ds4, p4, q4, rfl, rfl, rfl, h4, r4⟩ := trodAll_cons r3
  obtain ⟨v5, vs5, d5, ds5, p5, q5, rfl, rfl, rfl, h5, r5⟩ := trodAll_cons r4
  obtain ⟨v6, vs6, d6, ds6, p6, q6, rfl, rfl, rfl, h6, r6⟩ := trodAll_cons r5
  obtain ⟨rfl, rfl, rfl⟩ := trodAll_nil r6
  obtain rfl : args = #[v0, v1, v2, v3, v4, v5, v6] := by cases args; simp_all
  obtain ⟨rfl, rfl⟩ := trodVars_none hV
  have k0 := h0
  have lt0 : ∀ x ∈ p0, x.block < W.heap.size := by obtain ⟨m, hm⟩ := k0; exact DataW.trod_lt m _ _ _ hm
  obtain ⟨l0, rfl, hl0, hf0⟩ := Stru.open_fields3 Try.underlying33 (by kernel_rfl) (by kernel_rfl) (hval 0 33 v0 rfl rfl) h0
  have hl0' : l0.length = 4 := hl0
  obtain ⟨c0_0, n0_0, y0_0, e0_0, t0_0, q0_0⟩ := hf0 0 _ rfl
  obtain ⟨x0_0, g0_0, -, w0_0⟩ := DataW.trod_int Try.underlying25 t0_0
  obtain rfl : c0_0 = .int .u32 x0_0 := by simpa using g0_0
  obtain ⟨c0_1, n0_1, y0_1, e0_1, t0_1, q0_1⟩ := hf0 1 _ rfl
  obtain ⟨x0_1, g0_1, -, w0_1⟩ := DataW.trod_int Try.underlying25 t0_1
  obtain rfl : c0_1 = .int .u32 x0_1 := by simpa using g0_1
  obtain ⟨c0_2, n0_2, y0_2, e0_2, t0_2, q0_2⟩ := hf0 2 _ rfl
  obtain ⟨x0_2, g0_2, -⟩ := DataW.trod_bool Try.underlying4 t0_2
  obtain rfl : c0_2 = .bool x0_2 := by simpa using g0_2
  obtain ⟨c0_3, n0_3, y0_3, e0_3, t0_3, q0_3⟩ := hf0 3 _ rfl
  obtain ⟨a0_3, len0_3, cap0_3, rfl⟩ : ∃ a len cap, c0_3 = .slice a len cap := by
    rcases DataW.trod_slice Try.underlying31 t0_3 with ⟨g, _⟩ | ⟨a, len, cap, _, _, _, _, g, _⟩ <;> exact ⟨_, _, _, by simpa using g⟩
  obtain ⟨z0_3, w0_3, b0_3⟩ := Stru.field_bulk (k := .u8) Try.underlying31 Try.underlying5 (by kernel_rfl) t0_3
  obtain rfl : l0 = [.int .u32 x0_0, .int .u32 x0_1, .bool x0_2, .slice a0_3 len0_3 cap0_3] := List.ext_getElem? fun j => by
    match j with
    | 0 => exact e0_0
    | 1 => exact e0_1
    | 2 => exact e0_2
    | 3 => exact e0_3
    | j + 4 => rw [List.getElem?_eq_none (by omega)]; rfl
  have k1 := h1
  have lt1 : ∀ x ∈ p1, x.block < W.heap.size := by obtain ⟨m, hm⟩ := k1; exact DataW.trod_lt m _ _ _ hm
  obtain ⟨l1, rfl, hl1, hf1⟩ := Stru.open_fields3 Try.underlying35 (by kernel_rfl) (by kernel_rfl) (hval 1 35 v1 rfl rfl) h1
  have hl1' : l1.length = 3 := hl1
  obtain ⟨c1_0, n1_0, y1_0, e1_0, t1_0, q1_0⟩ := hf1 0 _ rfl
  obtain ⟨x1_0, g1_0, -, w1_0⟩ := DataW.trod_int Try.underlying25 t1_0
  obtain rfl : c1_0 = .int .u32 x1_0 := by simpa using g1_0
  obtain ⟨c1_1, n1_1, y1_1, e1_1, t1_1, q1_1⟩ := hf1 1 _ rfl
  obtain ⟨x1_1, g1_1, -, w1_1⟩ := DataW.trod_int Try.underlying25 t1_1
  obtain rfl : c1_1 = .int .u32 x1_1 := by simpa using g1_1
  obtain ⟨c1_2, n1_2, y1_2, e1_2, t1_2, q1_2⟩ := hf1 2 _ rfl
  obtain ⟨a1_2, len1_2, cap1_2, rfl⟩ : ∃ a len cap, c1_2 = .slice a len cap := by
    rcases DataW.trod_slice Try.underlying31 t1_2 with ⟨g, _⟩ | ⟨a, len, cap, _, _, _, _, g, _⟩ <;> exact ⟨_, _, _, by simpa using g⟩
  obtain ⟨z1_2, w1_2, b1_2⟩ := Stru.field_bulk (k := .u8) Try.underlying31 Try.underlying5 (by kernel_rfl) t1_2
  obtain rfl : l1 = [.int .u32 x1_0, .int .u32 x1_1, .slice a1_2 len1_2 cap1_2] := List.ext_getElem? fun j => by
    match j with
    | 0 => exact e1_0
    | 1 => exact e1_1
    | 2 => exact e1_2
    | j + 3 => rw [List.getElem?_eq_none (by omega)]; rfl
  have k2 := h2
  have lt2 : ∀ x ∈ p2, x.block < W.heap.size := by obtain ⟨m, hm⟩ := k2; exact DataW.trod_lt m _ _ _ hm
  obtain ⟨l2, rfl, hl2, hf2⟩ := Stru.open_fields3 Try.underlying39 (by kernel_rfl) (by kernel_rfl) (hval 2 39 v2 rfl rfl) h2
  have hl2' : l2.length = 6 := hl2
  obtain ⟨c2_0, n2_0, y2_0, e2_0, t2_0, q2_0⟩ := hf2 0 _ rfl
  obtain ⟨x2_0, g2_0, -, w2_0⟩ := DataW.trod_int Try.underlying36 t2_0
  obtain rfl : c2_0 = .int .u16 x2_0 := by simpa using g2_0
  obtain ⟨c2_1, n2_1, y2_1, e2_1, t2_1, q2_1⟩ := hf2 1 _ rfl
  obtain ⟨x2_1, g2_1, -, w2_1⟩ := DataW.trod_int Try.underlying36 t2_1
  obtain rfl : c2_1 = .int .u16 x2_1 := by simpa using g2_1
  obtain ⟨c2_2, n2_2, y2_2, e2_2, t2_2, q2_2⟩ := hf2 2 _ rfl
  obtain ⟨x2_2, g2_2, -, w2_2⟩ := DataW.trod_int Try.underlying37 t2_2
  obtain rfl : c2_2 = .int .u64 x2_2 := by simpa using g2_2
  obtain ⟨c2_3, n2_3, y2_3, e2_3, t2_3, q2_3⟩ := hf2 3 _ rfl
  obtain ⟨x2_3, g2_3, -, w2_3⟩ := DataW.trod_int Try.underlying37 t2_3
  obtain rfl : c2_3 = .int .u64 x2_3 := by simpa using g2_3
  obtain ⟨c2_4, n2_4, y2_4, e2_4, t2_4, q2_4⟩ := hf2 4 _ rfl
  obtain ⟨x2_4, g2_4, -, w2_4⟩ := DataW.trod_int Try.underlying37 t2_4
  obtain rfl : c2_4 = .int .u64 x2_4 := by simpa using g2_4
  obtain ⟨c2_5, n2_5, y2_5, e2_5, t2_5, q2_5⟩ := hf2 5 _ rfl
  obtain ⟨a2_5, len2_5, cap2_5, rfl⟩ : ∃ a len cap, c2_5 = .slice a len cap := by
    rcases DataW.trod_slice Try.underlying31 t2_5 with ⟨g, _⟩ | ⟨a, len, cap, _, _, _, _, g, _⟩ <;> exact ⟨_, _, _, by simpa using g⟩
  obtain ⟨z2_5, w2_5, b2_5⟩ := Stru.field_bulk (k := .u8) Try.underlying31 Try.underlying5 (by kernel_rfl) t2_5
  obtain rfl : l2 = [.int .u16 x2_0, .int .u16 x2_1, .int .u64 x2_2, .int .u64 x2_3, .int .u64 x2_4, .slice a2_5 len2_5 cap2_5] := List.ext_getElem? fun j => by
    match j with
    | 0 => exact e2_0
    | 1 => exact e2_1
    | 2 => exact e2_2
    | 3 => exact e2_3
    | 4 => exact e2_4
    | 5 => exact e2_5
    | j + 6 => rw [List.getElem?_eq_none (by omega)]; rfl
  have k3 := h3
  have lt3 : ∀ x ∈ p3, x.block < W.heap.size := by obtain ⟨m, hm⟩ := k3; exact DataW.trod_lt m _ _ _ hm
  obtain ⟨l3, rfl, hl3, hf3⟩ := Stru.open_fields3 Try.underlying41 (by kernel_rfl) (by kernel_rfl) (hval 3 41 v3 rfl rfl) h3
  have hl3' : l3.length = 5 := hl3
  obtain ⟨c3_0, n3_0, y3_0, e3_0, t3_0, q3_0⟩ := hf3 0 _ rfl
  obtain ⟨x3_0, g3_0, -, w3_0⟩ := DataW.trod_int Try.underlying36 t3_0
  obtain rfl : c3_0 = .int .u16 x3_0 := by simpa using g3_0
  obtain ⟨c3_1, n3_1, y3_1, e3_1, t3_1, q3_1⟩ := hf3 1 _ rfl
  obtain ⟨x3_1, g3_1, -, w3_1⟩ := DataW.trod_int Try.underlying36 t3_1
  obtain rfl : c3_1 = .int .u16 x3_1 := by simpa using g3_1
  obtain ⟨c3_2, n3_2, y3_2, e3_2, t3_2, q3_2⟩ := hf3 2 _ rfl
  obtain ⟨x3_2, g3_2, -, w3_2⟩ := DataW.trod_int Try.underlying37 t3_2
  obtain rfl : c3_2 = .int .u64 x3_2 := by simpa using g3_2
  obtain ⟨c3_3, n3_3, y3_3, e3_3, t3_3, q3_3⟩ := hf3 3 _ rfl
  obtain ⟨x3_3, g3_3, -, w3_3⟩ := DataW.trod_int Try.underlying37 t3_3
  obtain rfl : c3_3 = .int .u64 x3_3 := by simpa using g3_3
  obtain ⟨c3_4, n3_4, y3_4, e3_4, t3_4, q3_4⟩ := hf3 4 _ rfl
  obtain ⟨a3_4, len3_4, cap3_4, rfl⟩ : ∃ a len cap, c3_4 = .slice a len cap := by
    rcases DataW.trod_slice Try.underlying31 t3_4 with ⟨g, _⟩ | ⟨a, len, cap, _, _, _, _, g, _⟩ <;> exact ⟨_, _, _, by simpa using g⟩
  obtain ⟨z3_4, w3_4, b3_4⟩ := Stru.field_bulk (k := .u8) Try.underlying31 Try.underlying5 (by kernel_rfl) t3_4
  obtain rfl : l3 = [.int .u16 x3_0, .int .u16 x3_1, .int .u64 x3_2, .int .u64 x3_3, .slice a3_4 len3_4 cap3_4] := List.ext_getElem? fun j => by
    match j with
    | 0 => exact e3_0
    | 1 => exact e3_1
    | 2 => exact e3_2
    | 3 => exact e3_3
    | 4 => exact e3_4
    | j + 5 => rw [List.getElem?_eq_none (by omega)]; rfl
  obtain ⟨a4, rfl, rfl, rfl, w4⟩ := open_int Try.underlying25 (hval 4 25 v4 rfl rfl) h4
  obtain ⟨a5, rfl, rfl, rfl⟩ := open_bool Try.underlying4 (hval 5 4 v5 rfl rfl) h5
  obtain ⟨a6, len6, cap6, rfl⟩ := okWide_slice Try.underlying31 (hval 6 31 v6 rfl rfl)
  have k6 := h6
  have lt6 : ∀ x ∈ p6, x.block < W.heap.size := by obtain ⟨m, hm⟩ := k6; exact DataW.trod_lt m _ _ _ hm
  obtain ⟨z6, w6, b6⟩ : ∃ zs, IsRow .u8 W a6 len6 cap6 zs ∧ len6 ≤ Rows.uptoBulk d6 := by
    obtain ⟨fuel, hf⟩ := h6
    rcases open_ints Try.underlying31 Try.underlying5 (by kernel_rfl) hf with ⟨hcs, _⟩ | ⟨x, l, c, zs, hcs, _, hl, hm, hz, hx, hcell, hwz⟩
    · simp [Value.cells] at hcs
      obtain ⟨rfl, rfl, rfl⟩ := hcs
      exact ⟨[], .inl ⟨rfl, rfl, rfl, rfl⟩, Nat.zero_le _⟩
    · simp [Value.cells] at hcs
      obtain ⟨rfl, rfl, rfl⟩ := hcs
      refine ⟨zs, .inr ⟨_, rfl, hl, hm, by simpa using hz, hcell, hwz⟩, ?_⟩
      rw [show d6 = _ from congrArg Prod.fst hx]
      have hle := bulks.slice_le (lits (H := H) .u8 (zs.take len6)) (lits .u8 (zs.drop len6))
      have hz' : zs.length = cap6 := by simpa using hz
      simp [lits] at hle ⊢
      omega
  have y6 : len6 * 1 ≤ 140737488351232 := Go.Proofs.YtilgfhiomcfmhaaW.PrintWords.sized_ints hsz (j := 6) (t := 31) rfl rfl Try.underlying31 Try.underlying5 (by kernel_rfl) (by kernel_rfl) h6
  have hbk := bulks.bound hk
  simp only [List.cons_append, List.nil_append, List.append_nil, Rows.uptoBulkAll] at hbk
  clear hA0 hval0 hsz0 hsz hk
  refine (PureB.WireBack_row x0_0 x0_1 x0_2 a0_3 len0_3 cap0_3 z0_3 x1_0 x1_1 a1_2 len1_2 cap1_2 z1_2 x2_0 x2_1 x2_2 x2_3 x2_4 a2_5 len2_5 cap2_5 z2_5 x3_0 x3_1 x3_2 x3_3 a3_4 len3_4 cap3_4 z3_4 a4 a5 a6 len6 cap6 z6 W w0_0 w0_1 w0_3 (by omega) w1_0 w1_1 w1_2 (by omega) w2_0 w2_1 w2_2 w2_3 w2_4 w2_5 (by omega) w3_0 w3_1 w3_2 w3_3 w3_4 (by omega) w6 (by omega) w4).mono fun e W' ⟨he, bel⟩ => ?_
  subst he
  exact ⟨_, rfl, _, _, _, [], _, [], hW', trodAll_mk1 (shut_bool Try.underlying4 _), (trodAll_cons_mk (Below.trod laidOut (by kernel_rfl) (of_decide_eq_true (by kernel_rfl)) k0 bel lt0) (trodAll_cons_mk (Below.trod laidOut (by kernel_rfl) (of_decide_eq_true (by kernel_rfl)) k1 bel lt1) (trodAll_cons_mk (Below.trod laidOut (by kernel_rfl) (of_decide_eq_true (by kernel_rfl)) k2 bel lt2) (trodAll_cons_mk (Below.trod laidOut (by kernel_rfl) (of_decide_eq_true (by kernel_rfl)) k3 bel lt3) (trodAll_cons_mk (shut_int Try.underlying25 w4) (trodAll_cons_mk (shut_bool Try.underlying4 _) (trodAll_cons_mk (Below.trod laidOut (by kernel_rfl) (of_decide_eq_true (by kernel_rfl)) k6 bel lt6) trodAll_mk0))))))), rfl, bel.frame _, fun h => by cases h⟩
set_option maxRecDepth 100000 in
theorem lifted (os : Os) (started : os.Started) (H : Type) (enc : TypeId × Value → H) (F : Stop.Interp) :
    ReturnsInHanded {} Try.checked os 10 .any ((Rows.OpenSpec.upto Rows.wireBackSpec).pre6 enc Try.prog Try.f10 Rows.wireBackUptoRow.domain false) (((Rows.OpenSpec.upto Rows.wireBackSpec).at F).post enc Try.prog Try.f10 false true false false) := by
  refine returnsInHanded_of_cond_sized (C := Try.checked) (s := Rows.OpenSpec.upto Rows.wireBackSpec) (k := Rows.uptoSmall) rfl own started (by kernel_rfl) Try.func10
    (OpenSpec.witness (enc := enc) (C := Try.checked) (s := Rows.OpenSpec.upto Rows.wireBackSpec) (k := Rows.uptoSmall) rfl false ⟨#[], #[.agg #[.int .u32 0, .int .u32 0, .bool false, .slice none 0 0], .agg #[.int .u32 0, .int .u32 0, .slice none 0 0], .agg #[.int .u16 0, .int .u16 0, .int .u64 0, .int .u64 0, .int .u64 0, .slice none 0 0], .agg #[.int .u16 0, .int .u16 0, .int .u64 0, .int .u64 0, .slice none 0 0], .int .u32 0, .bool false, .slice none 0 0], []⟩ 8 (by kernel_rfl) (by kernel_rfl) (by kernel_rfl)
      (x := ([.agg [.lit (.int .u32 0), .lit (.int .u32 0), .lit (.bool false), .nil], .agg [.lit (.int .u32 0), .lit (.int .u32 0), .nil], .agg [.lit (.int .u16 0), .lit (.int .u16 0), .lit (.int .u64 0), .lit (.int .u64 0), .lit (.int .u64 0), .nil], .agg [.lit (.int .u16 0), .lit (.int .u16 0), .lit (.int .u64 0), .lit (.int .u64 0), .nil], .lit (.int .u32 0), .lit (.bool false), .nil], [], [])) (by kernel_rfl) rfl (by kernel_rfl)) ?_
  intro W base args ds gs before hval hW _ hk hsz _
  exact contract H enc W base args ds gs before hval hW hk hsz
theorem over : Rows.wireBackUptoRow.holds Try.pinned (Rows.OpenSpec.upto Rows.wireBackSpec) :=
  OpenClaim.holds_of_cond 10 Try.f10 rfl rfl rfl rfl rfl rfl rfl ⟨rfl, rfl, rfl, rfl, rfl⟩ rfl rfl rfl rfl rfl (by kernel_rfl) Try.func10 (by kernel_rfl)
    (of_decide_eq_true (by kernel_rfl)) (by unfold Func.isWrapper; first | (rw [if_pos (by decide +kernel)]; kernel_rfl) | (rw [if_neg (by decide +kernel)]; exact ⟨rfl, rfl⟩))
    (fun os started H enc _ F => lifted os started H enc F)
theorem proved : Rows.WireBackUptoSaid := over
#print axioms proved
end Go.Proofs.Ytilgfhiomcfmhaa.wireBack
namespace Go.Proofs.Ytilgfhiomcfmhaa
/-- The row, under a short name, for the claim. -/
theorem wireBackUpto_holds : Rows.WireBackUptoSaid := wireBack.proved
end Go.Proofs.Ytilgfhiomcfmhaa
