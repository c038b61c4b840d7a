/- WireEncodes: its walk, as the row's opening tells the arguments. -/
import Derived.Test.YtilgfhiomcfmhaaWenc
namespace Go.Proofs.Ytilgfhiomcfmhaa.PureE
open Go.RowKit Go.Proofs.Ytilgfhiomcfmhaa.Hand Go.Proofs.Ytilgfhiomcfmhaa.PE Go.Proofs.Ytilgfhiomcfmhaa.Octa Go.Proofs.YtilgfhiomcfmhaaW.PrintWords Go.Proofs.YtilgfhiomcfmhaaW.PrintLast
theorem rng_u16 {x : Int} (h : (Lit.int .u16 x).wf = true) : 0 ≤ x ∧ x ≤ 65535 := by
  have t : (decide ((0 : Int) ≤ x) && decide (x ≤ 65535)) = true := h
  simpa using t
theorem rng_u32 {x : Int} (h : (Lit.int .u32 x).wf = true) : 0 ≤ x ∧ x ≤ 4294967295 := by
  have t : (decide ((0 : Int) ≤ x) && decide (x ≤ 4294967295)) = true := h
  simpa using t
theorem rng_u64 {x : Int} (h : (Lit.int .u64 x).wf = true) : 0 ≤ x ∧ x ≤ 18446744073709551615 := by
  have t : (decide ((0 : Int) ≤ x) && decide (x ≤ 18446744073709551615)) = true := h
  simpa using t
/-- As the row's opening tells its arguments. -/
theorem WireEncodes_row (o0 : Int) (o1 : Int) (o2 : Bool) (ao : Option Addr) (no ko : Nat) (zo : List Int) (r0 : Int) (r1 : Int) (ar : Option Addr) (nr kr : Nat) (zr : List Int) (q0 : Int) (q1 : Int) (q2 : Int) (q3 : Int) (q4 : Int) (aq : Option Addr) (nq kq : Nat) (zq : List Int) (c0 : Int) (c1 : Int) (c2 : Int) (c3 : Int) (ac : Option Addr) (nc kc : Nat) (zc : List Int) (x : Bool) (w : World) (wo0 : (Lit.int .u32 o0).wf = true) (wo1 : (Lit.int .u32 o1).wf = true) (hwo : (ao = none ∧ no = 0 ∧ ko = 0 ∧ zo = []) ∨ ∃ x, ao = some x ∧ no ≤ ko ∧ ko ≤ maxLen ∧ zo.length = ko ∧ (∀ i, i < zo.length → w.cell? (x.add i) = some (.int .u8 (zo.getD i 0))) ∧ ∀ n ∈ zo, (Lit.int .u8 n).wf = true) (hyo : no * 1 ≤ reachBytes) (wr0 : (Lit.int .u32 r0).wf = true) (wr1 : (Lit.int .u32 r1).wf = true) (hwr : (ar = none ∧ nr = 0 ∧ kr = 0 ∧ zr = []) ∨ ∃ x, ar = some x ∧ nr ≤ kr ∧ kr ≤ maxLen ∧ zr.length = kr ∧ (∀ i, i < zr.length → w.cell? (x.add i) = some (.int .u8 (zr.getD i 0))) ∧ ∀ n ∈ zr, (Lit.int .u8 n).wf = true) (hyr : nr * 1 ≤ reachBytes) (wq0 : (Lit.int .u16 q0).wf = true) (wq1 : (Lit.int .u16 q1).wf = true) (wq2 : (Lit.int .u64 q2).wf = true) (wq3 : (Lit.int .u64 q3).wf = true) (wq4 : (Lit.int .u64 q4).wf = true) (hwq : (aq = none ∧ nq = 0 ∧ kq = 0 ∧ zq = []) ∨ ∃ x, aq = some x ∧ nq ≤ kq ∧ kq ≤ maxLen ∧ zq.length = kq ∧ (∀ i, i < zq.length → w.cell? (x.add i) = some (.int .u8 (zq.getD i 0))) ∧ ∀ n ∈ zq, (Lit.int .u8 n).wf = true) (hyq : nq * 1 ≤ reachBytes) (wc0 : (Lit.int .u16 c0).wf = true) (wc1 : (Lit.int .u16 c1).wf = true) (wc2 : (Lit.int .u64 c2).wf = true) (wc3 : (Lit.int .u64 c3).wf = true) (hwc : (ac = none ∧ nc = 0 ∧ kc = 0 ∧ zc = []) ∨ ∃ x, ac = some x ∧ nc ≤ kc ∧ kc ≤ maxLen ∧ zc.length = kc ∧ (∀ i, i < zc.length → w.cell? (x.add i) = some (.int .u8 (zc.getD i 0))) ∧ ∀ n ∈ zc, (Lit.int .u8 n).wf = true) (hyc : nc * 1 ≤ reachBytes) :
    Calls Try.prog 6 #[.agg #[.int .u32 o0, .int .u32 o1, .bool o2, .slice ao no ko], .agg #[.int .u32 r0, .int .u32 r1, .slice ar nr kr], .agg #[.int .u16 q0, .int .u16 q1, .int .u64 q2, .int .u64 q3, .int .u64 q4, .slice aq nq kq], .agg #[.int .u16 c0, .int .u16 c1, .int .u64 c2, .int .u64 c3, .slice ac nc kc], .bool x] w fun e w' => e = .returned (.bool true) ∧ Below w.heap.size w w' := by
  have hrb : reachBytes = 140737488351232 := rfl
  obtain ⟨lo, rfl, hro, hmo, hvo, hco⟩ := ReadsInt.ofRowC hwo
  obtain ⟨lr, rfl, hrr, hmr, hvr, hcr⟩ := ReadsInt.ofRowC hwr
  obtain ⟨lq, rfl, hrq, hmq, hvq, hcq⟩ := ReadsInt.ofRowC hwq
  obtain ⟨lc, rfl, hrc, hmc, hvc, hcc⟩ := ReadsInt.ofRowC hwc
  exact WireEncodes_walk o0 o1 o2 ao lo ko r0 r1 ar lr kr q0 q1 q2 q3 q4 aq lq kq c0 c1 c2 c3 ac lc kc x w (Kd.C_of_reads (d := (0 : Int)) (h1 := fun _ => rfl) hro) hco (by omega) (rng_u32 wo0) (rng_u32 wo1) (Kd.C_of_reads (d := (0 : Int)) (h1 := fun _ => rfl) hrr) hcr (by omega) (rng_u32 wr0) (rng_u32 wr1) (Kd.C_of_reads (d := (0 : Int)) (h1 := fun _ => rfl) hrq) hcq (by omega) (rng_u16 wq0) (rng_u16 wq1) (rng_u64 wq2) (rng_u64 wq3) (rng_u64 wq4) (Kd.C_of_reads (d := (0 : Int)) (h1 := fun _ => rfl) hrc) hcc (by omega) (rng_u16 wc0) (rng_u16 wc1) (rng_u64 wc2) (rng_u64 wc3)
end Go.Proofs.Ytilgfhiomcfmhaa.PureE
