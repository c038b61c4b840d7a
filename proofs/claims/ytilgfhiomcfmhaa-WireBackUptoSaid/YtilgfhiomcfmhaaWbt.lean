/- WireBack, walked, of the width 'true': a message that is laid down is read again, whatever stands behind, just if its data are not longer than the greatest length. -/
import Derived.Test.YtilgfhiomcfmhaaWbh
namespace Go.Proofs.Ytilgfhiomcfmhaa.PureB
open Go.RowKit Go.Proofs.Ytilgfhiomcfmhaa.Hand Go.Proofs.Ytilgfhiomcfmhaa.PD Go.Proofs.Ytilgfhiomcfmhaa.Octa Go.Proofs.YtilgfhiomcfmhaaW.PrintWords Go.Proofs.YtilgfhiomcfmhaaW.PrintLast
set_option linter.unusedSimpArgs false
set_option linter.unusedVariables false

set_option maxHeartbeats 4000000 in
set_option maxRecDepth 100000 in
theorem WireBack_true (o0 : Int) (o1 : Int) (o2 : Bool) (Ao : Option Addr) (lo : List Int) (co : Nat) (r0 : Int) (r1 : Int) (Ar : Option Addr) (lr : List Int) (cr : Nat) (q0 : Int) (q1 : Int) (q2 : Int) (q3 : Int) (q4 : Int) (Aq : Option Addr) (lq : List Int) (cq : Nat) (c0 : Int) (c1 : Int) (c2 : Int) (c3 : Int) (Ac : Option Addr) (lc : List Int) (cc : Nat) (m : Int) (Am : Option Addr) (lm : List Int) (cm : Nat) (w : World) (hCo : Kd.C (Kd.int .u8) w Ao lo.length lo) (hco : lo.length ≤ co) (hlo : lo.length ≤ 1048576) (hCr : Kd.C (Kd.int .u8) w Ar lr.length lr) (hcr : lr.length ≤ cr) (hlr : lr.length ≤ 1048576) (hCq : Kd.C (Kd.int .u8) w Aq lq.length lq) (hcq : lq.length ≤ cq) (hlq : lq.length ≤ 1048576) (hCc : Kd.C (Kd.int .u8) w Ac lc.length lc) (hcc : lc.length ≤ cc) (hlc : lc.length ≤ 1048576) (hCm : Kd.C (Kd.int .u8) w Am lm.length lm) (hcm : lm.length ≤ cm) (hlm : lm.length ≤ 1048576) (ho0 : 0 ≤ o0 ∧ o0 ≤ 4294967295) (ho1 : 0 ≤ o1 ∧ o1 ≤ 4294967295) (hr0 : 0 ≤ r0 ∧ r0 ≤ 4294967295) (hr1 : 0 ≤ r1 ∧ r1 ≤ 4294967295) (hq0 : 0 ≤ q0 ∧ q0 ≤ 65535) (hq1 : 0 ≤ q1 ∧ q1 ≤ 65535) (hq2 : 0 ≤ q2 ∧ q2 ≤ 18446744073709551615) (hq3 : 0 ≤ q3 ∧ q3 ≤ 18446744073709551615) (hq4 : 0 ≤ q4 ∧ q4 ≤ 18446744073709551615) (hc0 : 0 ≤ c0 ∧ c0 ≤ 65535) (hc1 : 0 ≤ c1 ∧ c1 ≤ 65535) (hc2 : 0 ≤ c2 ∧ c2 ≤ 18446744073709551615) (hc3 : 0 ≤ c3 ∧ c3 ≤ 18446744073709551615) (q0m : 0 ≤ m) (q1m : m ≤ 4294967295) :
    Calls Try.prog 10 #[.agg #[.int .u32 o0, .int .u32 o1, .bool o2, .slice Ao lo.length co], .agg #[.int .u32 r0, .int .u32 r1, .slice Ar lr.length cr], .agg #[.int .u16 q0, .int .u16 q1, .int .u64 q2, .int .u64 q3, .int .u64 q4, .slice Aq lq.length cq], .agg #[.int .u16 c0, .int .u16 c1, .int .u64 c2, .int .u64 c3, .slice Ac lc.length cc], .int .u32 m, .bool true, .slice Am lm.length cm] w fun e w' => e = .returned (.bool true) ∧ Below w.heap.size w w' := by
  have HCo := Lib.hid hCo
  have HCr := Lib.hid hCr
  have HCq := Lib.hid hCq
  have HCc := Lib.hid hCc
  have HCm := Lib.hid hCm
  clear hCo hCr hCq hCc hCm
  have eo : (lo.length : Int) % 4294967296 = (lo.length : Int) := by omega
  have eq : IntKind.u64.wrap (lq.length : Int) = (lq.length : Int) := by rw [IntKind.wrap_u64]; omega
  have Ko : Hid (((((w.alloc (.cells #[.int .u32 o0, .int .u32 (lo.length : Int), .bool false, .slice Ao lo.length co] 33)).alloc (.cells #[.int .u32 r0, .int .u32 r1, .slice Ar lr.length cr] 35)).alloc (.cells #[.int .u16 (Go.bits .or .u16 q0 32), .int .u16 1, .int .u64 q2, .int .u64 q3, .int .u64 (lq.length : Int), .slice Aq lq.length cq] 39)).alloc (.cells #[.int .u16 c0, .int .u16 c1, .int .u64 c2, .int .u64 c3, .slice Ac lc.length cc] 41)).heap[w.heap.size]? = some (.cells #[.int .u32 o0, .int .u32 (lo.length : Int), .bool false, .slice Ao lo.length co] 33 (0, 0))) := Lib.hid (by refine blk_alloc ?_ _; refine blk_alloc ?_ _; refine blk_alloc ?_ _; exact blk_new _ _)
  have Kr : Hid (((((w.alloc (.cells #[.int .u32 o0, .int .u32 (lo.length : Int), .bool false, .slice Ao lo.length co] 33)).alloc (.cells #[.int .u32 r0, .int .u32 r1, .slice Ar lr.length cr] 35)).alloc (.cells #[.int .u16 (Go.bits .or .u16 q0 32), .int .u16 1, .int .u64 q2, .int .u64 q3, .int .u64 (lq.length : Int), .slice Aq lq.length cq] 39)).alloc (.cells #[.int .u16 c0, .int .u16 c1, .int .u64 c2, .int .u64 c3, .slice Ac lc.length cc] 41)).heap[(w.heap.size + 1)]? = some (.cells #[.int .u32 r0, .int .u32 r1, .slice Ar lr.length cr] 35 (0, 0))) := Lib.hid (by refine blk_alloc ?_ _; refine blk_alloc ?_ _; have := blk_new ((w).alloc (.cells #[.int .u32 o0, .int .u32 (lo.length : Int), .bool false, .slice Ao lo.length co] 33)) (.cells #[.int .u32 r0, .int .u32 r1, .slice Ar lr.length cr] 35); simpa using this)
  have Kq : Hid (((((w.alloc (.cells #[.int .u32 o0, .int .u32 (lo.length : Int), .bool false, .slice Ao lo.length co] 33)).alloc (.cells #[.int .u32 r0, .int .u32 r1, .slice Ar lr.length cr] 35)).alloc (.cells #[.int .u16 (Go.bits .or .u16 q0 32), .int .u16 1, .int .u64 q2, .int .u64 q3, .int .u64 (lq.length : Int), .slice Aq lq.length cq] 39)).alloc (.cells #[.int .u16 c0, .int .u16 c1, .int .u64 c2, .int .u64 c3, .slice Ac lc.length cc] 41)).heap[(w.heap.size + 1 + 1)]? = some (.cells #[.int .u16 (Go.bits .or .u16 q0 32), .int .u16 1, .int .u64 q2, .int .u64 q3, .int .u64 (lq.length : Int), .slice Aq lq.length cq] 39 (0, 0))) := Lib.hid (by refine blk_alloc ?_ _; have := blk_new (((w).alloc (.cells #[.int .u32 o0, .int .u32 (lo.length : Int), .bool false, .slice Ao lo.length co] 33)).alloc (.cells #[.int .u32 r0, .int .u32 r1, .slice Ar lr.length cr] 35)) (.cells #[.int .u16 (Go.bits .or .u16 q0 32), .int .u16 1, .int .u64 q2, .int .u64 q3, .int .u64 (lq.length : Int), .slice Aq lq.length cq] 39); simpa using this)
  have Kc : Hid (((((w.alloc (.cells #[.int .u32 o0, .int .u32 (lo.length : Int), .bool false, .slice Ao lo.length co] 33)).alloc (.cells #[.int .u32 r0, .int .u32 r1, .slice Ar lr.length cr] 35)).alloc (.cells #[.int .u16 (Go.bits .or .u16 q0 32), .int .u16 1, .int .u64 q2, .int .u64 q3, .int .u64 (lq.length : Int), .slice Aq lq.length cq] 39)).alloc (.cells #[.int .u16 c0, .int .u16 c1, .int .u64 c2, .int .u64 c3, .slice Ac lc.length cc] 41)).heap[(w.heap.size + 1 + 1 + 1)]? = some (.cells #[.int .u16 c0, .int .u16 c1, .int .u64 c2, .int .u64 c3, .slice Ac lc.length cc] 41 (0, 0))) := Lib.hid (by have := blk_new ((((w).alloc (.cells #[.int .u32 o0, .int .u32 (lo.length : Int), .bool false, .slice Ao lo.length co] 33)).alloc (.cells #[.int .u32 r0, .int .u32 r1, .slice Ar lr.length cr] 35)).alloc (.cells #[.int .u16 (Go.bits .or .u16 q0 32), .int .u16 1, .int .u64 q2, .int .u64 q3, .int .u64 (lq.length : Int), .slice Aq lq.length cq] 39)) (.cells #[.int .u16 c0, .int .u16 c1, .int .u64 c2, .int .u64 c3, .slice Ac lc.length cc] 41); simpa using this)
  have HB1 : Hid (Below w.heap.size w ((((w.alloc (.cells #[.int .u32 o0, .int .u32 (lo.length : Int), .bool false, .slice Ao lo.length co] 33)).alloc (.cells #[.int .u32 r0, .int .u32 r1, .slice Ar lr.length cr] 35)).alloc (.cells #[.int .u16 (Go.bits .or .u16 q0 32), .int .u16 1, .int .u64 q2, .int .u64 q3, .int .u64 (lq.length : Int), .slice Aq lq.length cq] 39)).alloc (.cells #[.int .u16 c0, .int .u16 c1, .int .u64 c2, .int .u64 c3, .slice Ac lc.length cc] 41))) := Lib.hid (below_alloc (below_alloc (below_alloc (below_alloc (Below.refl _ _) _) _) _) _)
  have HPd : Hid (paidB (Go.bits .or .u16 q0 32) 1 true = true) := Lib.hid (paid_or q0 hq0 true)
  have HRf : Hid (0 ≤ Go.bits .or .u16 q0 32 ∧ Go.bits .or .u16 q0 32 ≤ 65535) := Lib.hid (or_range q0 hq0)
  go_enter Try.func10, Try.ntmps10
  go_upto_region 10 with (fail)
  generalize hw1 : World.alloc (World.alloc (World.alloc (World.alloc w _) _) _) _ = w1
  rw [hw1] at Ko Kr Kq Kc HB1
  clear hw1
  generalize hfq : Go.bits .or .u16 q0 32 = fq at Kq HPd HRf ⊢
  clear hfq
  obtain ⟨b10, hb10⟩ : ∃ b, w.heap.size + 1 + 1 + 1 = b := ⟨_, rfl⟩
  rw [hb10] at Kc ⊢
  obtain ⟨b9, hb9⟩ : ∃ b, w.heap.size + 1 + 1 = b := ⟨_, rfl⟩
  rw [hb9] at Kq ⊢
  obtain ⟨b8, hb8⟩ : ∃ b, w.heap.size + 1 = b := ⟨_, rfl⟩
  rw [hb8] at Kr ⊢
  clear hb10 hb9 hb8
  have KF : Hid (∀ W, Below w1.heap.size w1 W → (W.cell? ⟨w.heap.size, 0, none⟩ = some (.int .u32 o0) ∧ W.cell? ⟨w.heap.size, 1, none⟩ = some (.int .u32 (lo.length : Int)) ∧ W.cell? ⟨w.heap.size, 2, none⟩ = some (.bool false) ∧ W.cell? ⟨w.heap.size, 3, none⟩ = some (.slice Ao lo.length co) ∧ W.cell? ⟨b8, 0, none⟩ = some (.int .u32 r0) ∧ W.cell? ⟨b8, 1, none⟩ = some (.int .u32 r1) ∧ W.cell? ⟨b8, 2, none⟩ = some (.slice Ar lr.length cr) ∧ W.cell? ⟨b9, 0, none⟩ = some (.int .u16 fq) ∧ W.cell? ⟨b9, 1, none⟩ = some (.int .u16 1) ∧ W.cell? ⟨b9, 2, none⟩ = some (.int .u64 q2) ∧ W.cell? ⟨b9, 3, none⟩ = some (.int .u64 q3) ∧ W.cell? ⟨b9, 4, none⟩ = some (.int .u64 (lq.length : Int)) ∧ W.cell? ⟨b9, 5, none⟩ = some (.slice Aq lq.length cq) ∧ W.cell? ⟨b10, 0, none⟩ = some (.int .u16 c0) ∧ W.cell? ⟨b10, 1, none⟩ = some (.int .u16 c1) ∧ W.cell? ⟨b10, 2, none⟩ = some (.int .u64 c2) ∧ W.cell? ⟨b10, 3, none⟩ = some (.int .u64 c3) ∧ W.cell? ⟨b10, 4, none⟩ = some (.slice Ac lc.length cc))) := Lib.hid fun W hW => ⟨pw_cell_below hW ((blk_cell Ko.out 0).trans rfl), pw_cell_below hW ((blk_cell Ko.out 1).trans rfl), pw_cell_below hW ((blk_cell Ko.out 2).trans rfl), pw_cell_below hW ((blk_cell Ko.out 3).trans rfl), pw_cell_below hW ((blk_cell Kr.out 0).trans rfl), pw_cell_below hW ((blk_cell Kr.out 1).trans rfl), pw_cell_below hW ((blk_cell Kr.out 2).trans rfl), pw_cell_below hW ((blk_cell Kq.out 0).trans rfl), pw_cell_below hW ((blk_cell Kq.out 1).trans rfl), pw_cell_below hW ((blk_cell Kq.out 2).trans rfl), pw_cell_below hW ((blk_cell Kq.out 3).trans rfl), pw_cell_below hW ((blk_cell Kq.out 4).trans rfl), pw_cell_below hW ((blk_cell Kq.out 5).trans rfl), pw_cell_below hW ((blk_cell Kc.out 0).trans rfl), pw_cell_below hW ((blk_cell Kc.out 1).trans rfl), pw_cell_below hW ((blk_cell Kc.out 2).trans rfl), pw_cell_below hW ((blk_cell Kc.out 3).trans rfl), pw_cell_below hW ((blk_cell Kc.out 4).trans rfl)⟩
  have KS : Hid (∀ W, Below w1.heap.size w1 W → (W.cell? ⟨b8, 0, none⟩ = some (.int .u32 r0) ∧ W.cell? ⟨b8, 1, none⟩ = some (.int .u32 r1) ∧ W.cell? ⟨b8, 2, none⟩ = some (.slice Ar lr.length cr) ∧ W.cell? ⟨b10, 0, none⟩ = some (.int .u16 c0) ∧ W.cell? ⟨b10, 1, none⟩ = some (.int .u16 c1) ∧ W.cell? ⟨b10, 2, none⟩ = some (.int .u64 c2) ∧ W.cell? ⟨b10, 3, none⟩ = some (.int .u64 c3) ∧ W.cell? ⟨b10, 4, none⟩ = some (.slice Ac lc.length cc))) := Lib.hid fun W hW => ⟨pw_cell_below hW ((blk_cell Kr.out 0).trans rfl), pw_cell_below hW ((blk_cell Kr.out 1).trans rfl), pw_cell_below hW ((blk_cell Kr.out 2).trans rfl), pw_cell_below hW ((blk_cell Kc.out 0).trans rfl), pw_cell_below hW ((blk_cell Kc.out 1).trans rfl), pw_cell_below hW ((blk_cell Kc.out 2).trans rfl), pw_cell_below hW ((blk_cell Kc.out 3).trans rfl), pw_cell_below hW ((blk_cell Kc.out 4).trans rfl)⟩
  have HC1o : Hid (∀ W, Below w1.heap.size w1 W → Kd.C (Kd.int .u8) W Ao lo.length lo) := Lib.hid fun W hW => Kd.C_below HCo.out (below_next HB1.out hW)
  have HC1r : Hid (∀ W, Below w1.heap.size w1 W → Kd.C (Kd.int .u8) W Ar lr.length lr) := Lib.hid fun W hW => Kd.C_below HCr.out (below_next HB1.out hW)
  have HC1q : Hid (∀ W, Below w1.heap.size w1 W → Kd.C (Kd.int .u8) W Aq lq.length lq) := Lib.hid fun W hW => Kd.C_below HCq.out (below_next HB1.out hW)
  have HC1c : Hid (∀ W, Below w1.heap.size w1 W → Kd.C (Kd.int .u8) W Ac lc.length lc) := Lib.hid fun W hW => Kd.C_below HCc.out (below_next HB1.out hW)
  have HC1m : Hid (∀ W, Below w1.heap.size w1 W → Kd.C (Kd.int .u8) W Am lm.length lm) := Lib.hid fun W hW => Kd.C_below HCm.out (below_next HB1.out hW)
  clear HCo HCr HCq HCc HCm Ko Kr Kq Kc
  obtain ⟨a, ea, la, fa, na⟩ := back_option o0 lo lm m ho0 hlo hlm q0m q1m
  obtain ⟨b, eb, lb, fb, nb⟩ := back_reply r0 r1 lr lm m hr0 hr1 hlr hlm q0m q1m
  obtain ⟨d, ed, ld, fd, nd_⟩ := back_request_true fq q2 q3 lq lm m HRf.out hq2 hq3 HPd.out hlq hlm q0m q1m
  obtain ⟨g, eg, lg, fg, ng⟩ := back_chunk_true c0 c1 c2 c3 lc lm m hc0 hc1 hc2 hc3 hlc hlm q0m q1m
  have Ea := Lib.hid ea
  have LNa := Lib.hid la
  have Fa := Lib.hid fa
  have Na := Lib.hid na
  have Eb := Lib.hid eb
  have LNb := Lib.hid lb
  have Fb := Lib.hid fb
  have Nb := Lib.hid nb
  have Ed := Lib.hid ed
  have LNd := Lib.hid ld
  have Fd := Lib.hid fd
  have Nd := Lib.hid nd_
  have Eg := Lib.hid eg
  have LNg := Lib.hid lg
  have Fg := Lib.hid fg
  have Ng := Lib.hid ng
  have xa_ : ((a.length : Int) != 16 + (lo.length : Int)) = false := bne_eq_false_iff_eq.mpr (by omega)
  have sa_ : a.length ≤ 1048608 := by omega
  have xb_ : ((b.length : Int) != 20 + (lr.length : Int)) = false := bne_eq_false_iff_eq.mpr (by omega)
  have sb_ : b.length ≤ 1048608 := by omega
  have xd_ : ((d.length : Int) != 32 + (lq.length : Int)) = false := bne_eq_false_iff_eq.mpr (by omega)
  have sd_ : d.length ≤ 1048608 := by omega
  have xg_ : ((g.length : Int) != 32 + (lc.length : Int)) = false := bne_eq_false_iff_eq.mpr (by omega)
  have sg_ : g.length ≤ 1048608 := by omega
  obtain ⟨Ta, hTa⟩ : ∃ T, T = a ++ lm := ⟨_, rfl⟩
  rw [← hTa] at fa na
  have HTa := Lib.hid hTa
  obtain ⟨Tb, hTb⟩ : ∃ T, T = b ++ lm := ⟨_, rfl⟩
  rw [← hTb] at fb nb
  have HTb := Lib.hid hTb
  obtain ⟨Td, hTd⟩ : ∃ T, T = d ++ lm := ⟨_, rfl⟩
  rw [← hTd] at fd nd_
  have HTd := Lib.hid hTd
  obtain ⟨Tg, hTg⟩ : ∃ T, T = g ++ lm := ⟨_, rfl⟩
  rw [← hTg] at fg ng
  have HTg := Lib.hid hTg
  have Ga : Hid (∃ (PF : Bool) (PL : List Int) (PN PE : Int), wire_DecodeOption.f Ta m = some (o0, (lo.length : Int), PF, PL, PN, PE) ∧ (((lo.length : Int) ≤ m ∧ PF = false ∧ lo = PL ∧ PN = 16 + (lo.length : Int) ∧ PE = 0) ∨ (¬ (lo.length : Int) ≤ m ∧ PF = true ∧ PL = [] ∧ PN = 16 ∧ PE = 12))) := Lib.hid (by
    by_cases hfit : (lo.length : Int) ≤ m
    · exact ⟨_, _, _, _, fa hfit, .inl ⟨hfit, rfl, rfl, rfl, rfl⟩⟩
    · exact ⟨_, _, _, _, na hfit, .inr ⟨hfit, rfl, rfl, rfl, rfl⟩⟩)
  have Gb : Hid (∃ (PL : List Int) (PN PE : Int), wire_DecodeReply.f Tb m = some (r0, r1, PL, PN, PE) ∧ (((lr.length : Int) ≤ m ∧ lr = PL ∧ PN = 20 + (lr.length : Int) ∧ PE = 0) ∨ (¬ (lr.length : Int) ≤ m ∧ PL = [] ∧ PN = 20 ∧ PE = 12))) := Lib.hid (by
    by_cases hfit : (lr.length : Int) ≤ m
    · exact ⟨_, _, _, fb hfit, .inl ⟨hfit, rfl, rfl, rfl⟩⟩
    · exact ⟨_, _, _, nb hfit, .inr ⟨hfit, rfl, rfl, rfl⟩⟩)
  have Gd : Hid (∃ (PL : List Int) (PN PE : Int), wire_DecodeRequest.f Td m true = some (fq, 1, q2, q3, (lq.length : Int), PL, PN, PE) ∧ (((lq.length : Int) ≤ m ∧ lq = PL ∧ PN = 32 + (lq.length : Int) ∧ PE = 0) ∨ (¬ (lq.length : Int) ≤ m ∧ PL = [] ∧ PN = 32 ∧ PE = 12))) := Lib.hid (by
    by_cases hfit : (lq.length : Int) ≤ m
    · exact ⟨_, _, _, fd hfit, .inl ⟨hfit, rfl, rfl, rfl⟩⟩
    · exact ⟨_, _, _, nd_ hfit, .inr ⟨hfit, rfl, rfl, rfl⟩⟩)
  have Gg : Hid (∃ (PL : List Int) (PN PE : Int), wire_DecodeChunk.f Tg m true = some (c0, c1, c2, c3, PL, PN, PE) ∧ (((lc.length : Int) ≤ m ∧ lc = PL ∧ PN = 32 + (lc.length : Int) ∧ PE = 0) ∨ (¬ (lc.length : Int) ≤ m ∧ PL = [] ∧ PN = 32 ∧ PE = 12))) := Lib.hid (by
    by_cases hfit : (lc.length : Int) ≤ m
    · exact ⟨_, _, _, fg hfit, .inl ⟨hfit, rfl, rfl, rfl⟩⟩
    · exact ⟨_, _, _, ng hfit, .inr ⟨hfit, rfl, rfl, rfl⟩⟩)
  clear hTa hTb hTd hTg
  clear ea eb ed eg la lb ld lg fa fb fd fg na nb nd_ ng eo eq
  obtain ⟨ko0, ko1, ko2, ko3, -⟩ := KF.out w1 (Below.refl _ _)
  go_wp2_with fail
  refine (wire_EncodeOption.calls o0 (lo.length : Int) false Ao co lo a 0 _ (HC1o.out _ (Below.refl _ _)) hco Ea.out).mono ?_
  rintro e w2 ⟨va, rfl, hR, hb⟩
  have ho := own_of_R hR
  obtain ⟨Aa, ca, rfl⟩ := wr_form ho
  have HOa := Lib.hid ho
  have HRa : Hid (∀ k, (Value.slice Aa a.length ca).ownBlock = some k → w1.heap.size ≤ k ∧ k < w2.heap.size) := Lib.hid fun k hk => ⟨own_base ho k hk, own_lt ho k hk⟩
  clear ho hR
  have HM2 : Hid (Below w1.heap.size w1 w2) := Lib.hid hb
  clear hb ko0 ko1 ko2 ko3
  obtain ⟨-, -, -, -, -, -, -, kq0, kq1, kq2, kq3, kq4, kq5, -⟩ := KF.out w2 HM2.out
  go_wp2_with fail
  refine (wire_EncodeRequest.calls fq 1 q2 q3 (lq.length : Int) Aq cq lq true d 0 _ (HC1q.out _ HM2.out) hcq Ed.out).mono ?_
  rintro e w3 ⟨vd, rfl, hR, hb⟩
  have ho := own_of_R hR
  obtain ⟨Ad, cd, rfl⟩ := wr_form ho
  have HOd := Lib.hid ho
  have HRd : Hid (∀ k, (Value.slice Ad d.length cd).ownBlock = some k → w2.heap.size ≤ k ∧ k < w3.heap.size) := Lib.hid fun k hk => ⟨own_base ho k hk, own_lt ho k hk⟩
  clear ho hR
  have HS3 : Hid (w2.heap.size ≤ w3.heap.size) := Lib.hid hb.size
  have HM3 : Hid (Below w1.heap.size w1 w3) := Lib.hid (below_next HM2.out hb)
  have HOa3 := Lib.hid (own_next HOa.out hb)
  clear hb kq0 kq1 kq2 kq3 kq4 kq5
  go_wp2_with fail
  go_region_held3 (fun w' => w'.cell? ⟨b8, 0, none⟩ = some (.int .u32 r0) ∧ w'.cell? ⟨b8, 1, none⟩ = some (.int .u32 r1) ∧ w'.cell? ⟨b8, 2, none⟩ = some (.slice Ar lr.length cr) ∧ w'.cell? ⟨b10, 0, none⟩ = some (.int .u16 c0) ∧ w'.cell? ⟨b10, 1, none⟩ = some (.int .u16 c1) ∧ w'.cell? ⟨b10, 2, none⟩ = some (.int .u64 c2) ∧ w'.cell? ⟨b10, 3, none⟩ = some (.int .u64 c3) ∧ w'.cell? ⟨b10, 4, none⟩ = some (.slice Ac lc.length cc)) ((refine KS.out _ ?_; (repeat (first | (with_reducible exact HM3.out) | (with_reducible exact HM4.out) | (with_reducible exact HM5.out) | (with_reducible refine below_drew ?_) | (with_reducible refine pw_below_drewN ?_ _))))) (first | (go_at_call 21; (with_reducible refine (wire_EncodeReply.calls r0 r1 Ar cr lr b _ ?cc hcr Eb.out).mono ?_); (case cc => refine HC1r.out _ ?_; (repeat (first | (with_reducible exact HM3.out) | (with_reducible refine below_drew ?_) | (with_reducible refine pw_below_drewN ?_ _)))); rintro e w4 ⟨vb, rfl, hR, hb⟩; (have HRb0 := Lib.hid hR); (have HL4 : Hid (Below w3.heap.size w3 w4) := Lib.hid (below_next (by (repeat (first | (with_reducible exact Below.refl _ _) | (with_reducible refine below_drew ?_) | (with_reducible refine pw_below_drewN ?_ _)))) hb)); (have HM4 : Hid (Below w1.heap.size w1 w4) := Lib.hid (below_next HM3.out HL4.out)); (have HS4 : Hid (w3.heap.size ≤ w4.heap.size) := Lib.hid HL4.out.size); clear hR hb) | (go_at_call 23; (with_reducible refine (wire_EncodeChunk.calls c0 c1 c2 c3 Ac cc lc true g _ ?cc hcc Eg.out).mono ?_); (case cc => refine HC1c.out _ ?_; (repeat (first | (with_reducible exact HM4.out) | (with_reducible refine below_drew ?_) | (with_reducible refine pw_below_drewN ?_ _)))); rintro e w5 ⟨vg, rfl, hR, hb⟩; (have HRg0 := Lib.hid hR); (have HL5 : Hid (Below w4.heap.size w4 w5) := Lib.hid (below_next (by (repeat (first | (with_reducible exact Below.refl _ _) | (with_reducible refine below_drew ?_) | (with_reducible refine pw_below_drewN ?_ _)))) hb)); (have HM5 : Hid (Below w1.heap.size w1 w5) := Lib.hid (below_next HM4.out HL5.out)); clear hR hb))
  have ho := own_of_R HRb0.out
  obtain ⟨Ab, cb, rfl⟩ := wr_form ho
  have HOb := Lib.hid ho
  have HRb : Hid (∀ k, (Value.slice Ab b.length cb).ownBlock = some k → w3.heap.size ≤ k ∧ k < w4.heap.size) := Lib.hid fun k hk => ⟨(show w3.heap.size ≤ k from own_base ho k hk), own_lt ho k hk⟩
  clear ho
  have ho := own_of_R HRg0.out
  obtain ⟨Ag, cg, rfl⟩ := wr_form ho
  have HOg := Lib.hid ho
  have HRg : Hid (∀ k, (Value.slice Ag g.length cg).ownBlock = some k → w4.heap.size ≤ k ∧ k < w5.heap.size) := Lib.hid fun k hk => ⟨(show w4.heap.size ≤ k from own_base ho k hk), own_lt ho k hk⟩
  clear ho
  have R5a := Lib.hid (own_weaken (own_next (own_next HOa3.out HL4.out) HL5.out) (Nat.zero_le _))
  have R5d := Lib.hid (own_weaken (own_next (own_next HOd.out HL4.out) HL5.out) (Nat.zero_le _))
  have R5b := Lib.hid (own_weaken (own_next HOb.out HL5.out) (Nat.zero_le _))
  have R5g := Lib.hid (own_weaken HOg.out (Nat.zero_le _))
  have s12 := HM2.out.size
  have s23 := HS3.out
  have s34 := HS4.out
  have s45 := HL5.out.size
  obtain ⟨i0, hi, hz0, hz1, hz2⟩ := info_parts info_u8
  have HS : Hid (w1.heap.size ≤ w2.heap.size ∧ w2.heap.size ≤ w3.heap.size ∧ w3.heap.size ≤ w4.heap.size ∧ w4.heap.size ≤ w5.heap.size) := Lib.hid ⟨s12, s23, s34, s45⟩
  clear s12 s23 s34 s45 HOa HOa3 HOd HOb HOg HRb0 HRg0 HM2 HM3 HM4 HL4 HL5 HS3 HS4 Ea Eb Ed Eg
  obtain ⟨-, -, -, ko3, -, -, kr2, -, -, -, -, -, kq5, -, -, -, -, kc4⟩ := KF.out w5 HM5.out
  go_wp2_with fail
  refine (num_same 0 w5).mono ?_
  rintro e w' ⟨rfl, rfl⟩
  go_wp2_with fail
  refine (num_same 0 w5).mono ?_
  rintro e w' ⟨rfl, rfl⟩
  skip
  go_wp2_with (at_builtin; go_must (refine wpList_append_bytes rfl (.tmp 114) (.tmp 115) 31 rfl 5 i0 (.int .u8 0) Try.underlying31 hi hz0 hz1 hz2 rfl (.slice Aa a.length ca) a rfl R5a.out Am lm lm.length cm rfl rfl (HC1m.out _ HM5.out) (by omega) ?_); intro v' w6 hown hgrow hnew; (rw [← HTa.out] at hown); (obtain ⟨ATa, cTa, rfl, hcTa, hCT⟩ := C_of_R (R_of_own hown)); (have HCTa := Lib.hid hCT); (have FR : Fr (fun k => (Value.slice Aa a.length ca).ownBlock = some k) w5 w6 := (Fr.refl _ _).grown hgrow (fun k hk => hk)); (have HM6 : Hid (Below w1.heap.size w1 w6) := Lib.hid (pw_below_grown HM5.out _ HM5.out.size hgrow (fun k hk => by have r1 := HRa.out k hk; have r3 := HS.out; omega))); (have R6b := Lib.hid (own_move R5b.out fun k hk => FR.block k (own_lt R5b.out k hk) (fun hk2 => by have r1 := HRb.out k hk; have r2 := HRa.out k hk2; have r3 := HS.out; omega))); (have R6d := Lib.hid (own_move R5d.out fun k hk => FR.block k (own_lt R5d.out k hk) (fun hk2 => by have r1 := HRd.out k hk; have r2 := HRa.out k hk2; have r3 := HS.out; omega))); (have R6g := Lib.hid (own_move R5g.out fun k hk => FR.block k (own_lt R5g.out k hk) (fun hk2 => by have r1 := HRg.out k hk; have r2 := HRa.out k hk2; have r3 := HS.out; omega))); clear hown hgrow hnew FR hCT)
  obtain ⟨PFa, PLa, PNa, PEa, hG, hcasea⟩ := Ga.out
  have HGa := Lib.hid hG
  have HCS := Lib.hid hcasea
  clear hG hcasea
  refine (wire_DecodeOption.calls ATa cTa Ta m  o0 (lo.length : Int) PFa PLa PNa PEa _ HCTa.out hcTa HGa.out).mono ?_
  rintro e w7 ⟨vp, rfl, hR, hb⟩
  obtain ⟨Apa, cpa, rfl, hcpa, hCp⟩ := C_of_R hR
  have HCp : Hid (∀ W, Below w7.heap.size w7 W → Kd.C (Kd.int .u8) W Apa PLa.length PLa) := Lib.hid fun W hW => Kd.C_below hCp hW
  have HM7 : Hid (Below w1.heap.size w1 w7) := Lib.hid (below_next HM6.out hb)
  have R7b := Lib.hid (own_next R6b.out hb)
  have R7d := Lib.hid (own_next R6d.out hb)
  have R7g := Lib.hid (own_next R6g.out hb)
  clear hb hR hCp
  have HKP : Hid ((w7.alloc (.cells #[.int .u32 o0, .int .u32 (lo.length : Int), .bool PFa, .slice Apa PLa.length cpa] 33)).heap[w7.heap.size]? = some (.cells #[.int .u32 o0, .int .u32 (lo.length : Int), .bool PFa, .slice Apa PLa.length cpa] 33 (0, 0))) := Lib.hid (blk_new _ _)
  have HM8 : Hid (Below w1.heap.size w1 (w7.alloc (.cells #[.int .u32 o0, .int .u32 (lo.length : Int), .bool PFa, .slice Apa PLa.length cpa] 33))) := Lib.hid (below_alloc HM7.out _)
  have HQ8 : Hid (Below w7.heap.size w7 (w7.alloc (.cells #[.int .u32 o0, .int .u32 (lo.length : Int), .bool PFa, .slice Apa PLa.length cpa] 33))) := Lib.hid (below_alloc (Below.refl _ _) _)
  go_upto_region 16 with (fail)
  generalize hw8 : World.alloc w7 _ = w8
  rw [hw8] at HKP HM8 HQ8
  clear hw8
  have R8b := Lib.hid (own_next R7b.out HQ8.out)
  have R8d := Lib.hid (own_next R7d.out HQ8.out)
  have R8g := Lib.hid (own_next R7g.out HQ8.out)
  go_cut [185] (fun vS wc => vS = .bool false ∧ Below w8.heap.size w8 wc)
  case first =>
    as_aux_lemma =>
      skip
      have pb0 : w8.cell? ⟨w7.heap.size, 0, none⟩ = some (.int .u32 o0) := (blk_cell HKP.out 0).trans rfl
      have pb1 : w8.cell? ⟨w7.heap.size, 1, none⟩ = some (.int .u32 (lo.length : Int)) := (blk_cell HKP.out 1).trans rfl
      have pb2 : w8.cell? ⟨w7.heap.size, 2, none⟩ = some (.bool PFa) := (blk_cell HKP.out 2).trans rfl
      have pb3 : w8.cell? ⟨w7.heap.size, 3, none⟩ = some (.slice Apa PLa.length cpa) := (blk_cell HKP.out 3).trans rfl
      obtain ⟨ko0, ko1, ko2, ko3, -, -, -, -, -, -, -, -, -, -, -, -, -, -⟩ := KF.out w8 HM8.out
      rcases HCS.out with ⟨hfit, rfl, rfl, rfl, rfl⟩ | ⟨hfit, rfl, rfl, rfl, rfl⟩
      · have e1 : ((16 + (lo.length : Int)) != 16 + (lo.length : Int)) = false := by simp
        go_wp2_with fail
        refine (fits_yes Ao lo.length co m w8 hlo (by omega) q1m).mono ?_
        rintro e w' ⟨rfl, rfl⟩
        go_wp2_with fail
        refine (num_same 0 w8).mono ?_
        rintro e w' ⟨rfl, rfl⟩
        go_wp2_with fail
        have hsm : spindlelaw08_sameOption.f (lo.length + 1) o0 (lo.length : Int) false lo o0 (lo.length : Int) false lo = some true := by
          unfold spindlelaw08_sameOption.f
          simp only [same_is lo (by omega) (lo.length + 1) (by omega), if_true, Option.bind_some, beq_self_eq_true]
        refine (spindlelaw08_sameOption.calls (lo.length + 1) o0 (lo.length : Int) false Apa cpa lo o0 (lo.length : Int) false Ao co lo true w8 (HCp.out _ HQ8.out) hcpa (HC1o.out _ HM8.out) hco hsm).mono ?_
        rintro e wz ⟨rfl, hb⟩
        have HBZ := Lib.hid hb
        have HMz := Lib.hid (below_next HM8.out hb)
        clear hb
        obtain ⟨-, -, -, zo3, -, -, -, -, -, -, -, -, -, -, -, -, -, -⟩ := KF.out wz HMz.out
        go_wp2_with fail
        refine (fits_yes Ao lo.length co m wz hlo (by omega) q1m).mono ?_
        rintro e w' ⟨rfl, rfl⟩
        go_wp2_with fail
        go_meet
        case rel => exact ⟨rfl, HBZ.out⟩
      · have e1 : ((16 : Int) != 16) = false := by simp
        have ev_o0 : (o0 != o0) = false := by simp
        have ev_lo : ((lo.length : Int) != (lo.length : Int)) = false := by simp
        go_wp2_with fail
        refine (fits_no Ao lo.length co m w8 hlo q0m (by omega) q1m).mono ?_
        rintro e w' ⟨rfl, rfl⟩
        go_wp2_with fail
        refine (fits_no Ao lo.length co m w8 hlo q0m (by omega) q1m).mono ?_
        rintro e w' ⟨rfl, rfl⟩
        go_wp2_with fail
        refine (num_same 12 w8).mono ?_
        rintro e w' ⟨rfl, rfl⟩
        go_wp2_with fail
        go_meet
        case rel => exact ⟨rfl, Below.refl _ _⟩
  case rest =>
    as_aux_lemma =>
      obtain ⟨rfl, hbw⟩ := hcut
      generalize wc = w9 at hbw ⊢
      have HM9 : Hid (Below w1.heap.size w1 w9) := Lib.hid (below_next HM8.out hbw)
      have R9b := Lib.hid (own_next R8b.out hbw)
      have R9d := Lib.hid (own_next R8d.out hbw)
      have R9g := Lib.hid (own_next R8g.out hbw)
      clear hbw HKP HQ8 HCp HCS
      clear R5b R6b R7b R8b
      clear R5d R6d R7d R8d
      clear R5g R6g R7g R8g
      skip
      go_wp2_with (at_builtin; go_must (refine wpList_append_bytes rfl (.tmp 187) (.tmp 188) 31 rfl 5 i0 (.int .u8 0) Try.underlying31 hi hz0 hz1 hz2 rfl (.slice Ab b.length cb) b rfl R9b.out Am lm lm.length cm rfl rfl (HC1m.out _ HM9.out) (by omega) ?_); intro v' w10 hown hgrow hnew; (rw [← HTb.out] at hown); (obtain ⟨ATb, cTb, rfl, hcTb, hCT⟩ := C_of_R (R_of_own hown)); (have HCTb := Lib.hid hCT); (have FR : Fr (fun k => (Value.slice Ab b.length cb).ownBlock = some k) w9 w10 := (Fr.refl _ _).grown hgrow (fun k hk => hk)); (have HM10 : Hid (Below w1.heap.size w1 w10) := Lib.hid (pw_below_grown HM9.out _ HM9.out.size hgrow (fun k hk => by have r1 := HRb.out k hk; have r3 := HS.out; omega))); (have R10d := Lib.hid (own_move R9d.out fun k hk => FR.block k (own_lt R9d.out k hk) (fun hk2 => by have r1 := HRd.out k hk; have r2 := HRb.out k hk2; have r3 := HS.out; omega))); (have R10g := Lib.hid (own_move R9g.out fun k hk => FR.block k (own_lt R9g.out k hk) (fun hk2 => by have r1 := HRg.out k hk; have r2 := HRb.out k hk2; have r3 := HS.out; omega))); clear hown hgrow hnew FR hCT)
      obtain ⟨PLb, PNb, PEb, hG, hcaseb⟩ := Gb.out
      have HGb := Lib.hid hG
      have HCS := Lib.hid hcaseb
      clear hG hcaseb
      refine (wire_DecodeReply.calls ATb cTb Tb m  r0 r1 PLb PNb PEb _ HCTb.out hcTb HGb.out).mono ?_
      rintro e w11 ⟨vp, rfl, hR, hb⟩
      obtain ⟨Apb, cpb, rfl, hcpb, hCp⟩ := C_of_R hR
      have HCp : Hid (∀ W, Below w11.heap.size w11 W → Kd.C (Kd.int .u8) W Apb PLb.length PLb) := Lib.hid fun W hW => Kd.C_below hCp hW
      have HM11 : Hid (Below w1.heap.size w1 w11) := Lib.hid (below_next HM10.out hb)
      have R11d := Lib.hid (own_next R10d.out hb)
      have R11g := Lib.hid (own_next R10g.out hb)
      clear hb hR hCp
      have HKP : Hid ((w11.alloc (.cells #[.int .u32 r0, .int .u32 r1, .slice Apb PLb.length cpb] 35)).heap[w11.heap.size]? = some (.cells #[.int .u32 r0, .int .u32 r1, .slice Apb PLb.length cpb] 35 (0, 0))) := Lib.hid (blk_new _ _)
      have HM12 : Hid (Below w1.heap.size w1 (w11.alloc (.cells #[.int .u32 r0, .int .u32 r1, .slice Apb PLb.length cpb] 35))) := Lib.hid (below_alloc HM11.out _)
      have HQ12 : Hid (Below w11.heap.size w11 (w11.alloc (.cells #[.int .u32 r0, .int .u32 r1, .slice Apb PLb.length cpb] 35))) := Lib.hid (below_alloc (Below.refl _ _) _)
      go_upto_region 19 with (fail)
      generalize hw8 : World.alloc w11 _ = w12
      rw [hw8] at HKP HM12 HQ12
      clear hw8
      have R12d := Lib.hid (own_next R11d.out HQ12.out)
      have R12g := Lib.hid (own_next R11g.out HQ12.out)
      go_cut [246] (fun vS wc => vS = .bool false ∧ Below w12.heap.size w12 wc)
      case first =>
        as_aux_lemma =>
          skip
          have pb0 : w12.cell? ⟨w11.heap.size, 0, none⟩ = some (.int .u32 r0) := (blk_cell HKP.out 0).trans rfl
          have pb1 : w12.cell? ⟨w11.heap.size, 1, none⟩ = some (.int .u32 r1) := (blk_cell HKP.out 1).trans rfl
          have pb2 : w12.cell? ⟨w11.heap.size, 2, none⟩ = some (.slice Apb PLb.length cpb) := (blk_cell HKP.out 2).trans rfl
          obtain ⟨-, -, -, -, kr0, kr1, kr2, -, -, -, -, -, -, -, -, -, -, -⟩ := KF.out w12 HM12.out
          rcases HCS.out with ⟨hfit, rfl, rfl, rfl⟩ | ⟨hfit, rfl, rfl, rfl⟩
          · have e1 : ((20 + (lr.length : Int)) != 20 + (lr.length : Int)) = false := by simp
            go_wp2_with fail
            refine (fits_yes Ar lr.length cr m w12 hlr (by omega) q1m).mono ?_
            rintro e w' ⟨rfl, rfl⟩
            go_wp2_with fail
            refine (num_same 0 w12).mono ?_
            rintro e w' ⟨rfl, rfl⟩
            go_wp2_with fail
            have hsm : spindlelaw08_sameReply.f (lr.length + 1) r0 r1 lr r0 r1 lr = some true := by
              unfold spindlelaw08_sameReply.f
              simp only [same_is lr (by omega) (lr.length + 1) (by omega), if_true, Option.bind_some, beq_self_eq_true]
            refine (spindlelaw08_sameReply.calls (lr.length + 1) r0 r1 Apb cpb lr r0 r1 Ar cr lr true w12 (HCp.out _ HQ12.out) hcpb (HC1r.out _ HM12.out) hcr hsm).mono ?_
            rintro e wz ⟨rfl, hb⟩
            have HBZ := Lib.hid hb
            have HMz := Lib.hid (below_next HM12.out hb)
            clear hb
            obtain ⟨-, -, -, -, -, -, zr2, -, -, -, -, -, -, -, -, -, -, -⟩ := KF.out wz HMz.out
            go_wp2_with fail
            refine (fits_yes Ar lr.length cr m wz hlr (by omega) q1m).mono ?_
            rintro e w' ⟨rfl, rfl⟩
            go_wp2_with fail
            go_meet
            case rel => exact ⟨rfl, HBZ.out⟩
          · have e1 : ((20 : Int) != 20) = false := by simp
            have ev_r1 : (r1 != r1) = false := by simp
            go_wp2_with fail
            refine (fits_no Ar lr.length cr m w12 hlr q0m (by omega) q1m).mono ?_
            rintro e w' ⟨rfl, rfl⟩
            go_wp2_with fail
            refine (fits_no Ar lr.length cr m w12 hlr q0m (by omega) q1m).mono ?_
            rintro e w' ⟨rfl, rfl⟩
            go_wp2_with fail
            refine (num_same 12 w12).mono ?_
            rintro e w' ⟨rfl, rfl⟩
            go_wp2_with fail
            go_meet
            case rel => exact ⟨rfl, Below.refl _ _⟩
      case rest =>
        as_aux_lemma =>
          obtain ⟨rfl, hbw⟩ := hcut
          generalize wc = w13 at hbw ⊢
          have HM13 : Hid (Below w1.heap.size w1 w13) := Lib.hid (below_next HM12.out hbw)
          have R13d := Lib.hid (own_next R12d.out hbw)
          have R13g := Lib.hid (own_next R12g.out hbw)
          clear hbw HKP HQ12 HCp HCS
          clear R9d R10d R11d R12d
          clear R9g R10g R11g R12g
          skip
          go_wp2_with (at_builtin; go_must (refine wpList_append_bytes rfl (.tmp 248) (.tmp 249) 31 rfl 5 i0 (.int .u8 0) Try.underlying31 hi hz0 hz1 hz2 rfl (.slice Ad d.length cd) d rfl R13d.out Am lm lm.length cm rfl rfl (HC1m.out _ HM13.out) (by omega) ?_); intro v' w14 hown hgrow hnew; (rw [← HTd.out] at hown); (obtain ⟨ATd, cTd, rfl, hcTd, hCT⟩ := C_of_R (R_of_own hown)); (have HCTd := Lib.hid hCT); (have FR : Fr (fun k => (Value.slice Ad d.length cd).ownBlock = some k) w13 w14 := (Fr.refl _ _).grown hgrow (fun k hk => hk)); (have HM14 : Hid (Below w1.heap.size w1 w14) := Lib.hid (pw_below_grown HM13.out _ HM13.out.size hgrow (fun k hk => by have r1 := HRd.out k hk; have r3 := HS.out; omega))); (have R14g := Lib.hid (own_move R13g.out fun k hk => FR.block k (own_lt R13g.out k hk) (fun hk2 => by have r1 := HRg.out k hk; have r2 := HRd.out k hk2; have r3 := HS.out; omega))); clear hown hgrow hnew FR hCT)
          obtain ⟨PLd, PNd, PEd, hG, hcased⟩ := Gd.out
          have HGd := Lib.hid hG
          have HCS := Lib.hid hcased
          clear hG hcased
          refine (wire_DecodeRequest.calls ATd cTd Td m true fq 1 q2 q3 (lq.length : Int) PLd PNd PEd _ HCTd.out hcTd HGd.out).mono ?_
          rintro e w15 ⟨vp, rfl, hR, hb⟩
          obtain ⟨Apd, cpd, rfl, hcpd, hCp⟩ := C_of_R hR
          have HCp : Hid (∀ W, Below w15.heap.size w15 W → Kd.C (Kd.int .u8) W Apd PLd.length PLd) := Lib.hid fun W hW => Kd.C_below hCp hW
          have HM15 : Hid (Below w1.heap.size w1 w15) := Lib.hid (below_next HM14.out hb)
          have R15g := Lib.hid (own_next R14g.out hb)
          clear hb hR hCp
          have HKP : Hid ((w15.alloc (.cells #[.int .u16 fq, .int .u16 1, .int .u64 q2, .int .u64 q3, .int .u64 (lq.length : Int), .slice Apd PLd.length cpd] 39)).heap[w15.heap.size]? = some (.cells #[.int .u16 fq, .int .u16 1, .int .u64 q2, .int .u64 q3, .int .u64 (lq.length : Int), .slice Apd PLd.length cpd] 39 (0, 0))) := Lib.hid (blk_new _ _)
          have HM16 : Hid (Below w1.heap.size w1 (w15.alloc (.cells #[.int .u16 fq, .int .u16 1, .int .u64 q2, .int .u64 q3, .int .u64 (lq.length : Int), .slice Apd PLd.length cpd] 39))) := Lib.hid (below_alloc HM15.out _)
          have HQ16 : Hid (Below w15.heap.size w15 (w15.alloc (.cells #[.int .u16 fq, .int .u16 1, .int .u64 q2, .int .u64 q3, .int .u64 (lq.length : Int), .slice Apd PLd.length cpd] 39))) := Lib.hid (below_alloc (Below.refl _ _) _)
          go_upto_region 22 with (fail)
          generalize hw8 : World.alloc w15 _ = w16
          rw [hw8] at HKP HM16 HQ16
          clear hw8
          have R16g := Lib.hid (own_next R15g.out HQ16.out)
          go_cut [317] (fun vS wc => vS = .bool false ∧ Below w16.heap.size w16 wc)
          case first =>
            as_aux_lemma =>
              skip
              have pb0 : w16.cell? ⟨w15.heap.size, 0, none⟩ = some (.int .u16 fq) := (blk_cell HKP.out 0).trans rfl
              have pb1 : w16.cell? ⟨w15.heap.size, 1, none⟩ = some (.int .u16 1) := (blk_cell HKP.out 1).trans rfl
              have pb2 : w16.cell? ⟨w15.heap.size, 2, none⟩ = some (.int .u64 q2) := (blk_cell HKP.out 2).trans rfl
              have pb3 : w16.cell? ⟨w15.heap.size, 3, none⟩ = some (.int .u64 q3) := (blk_cell HKP.out 3).trans rfl
              have pb4 : w16.cell? ⟨w15.heap.size, 4, none⟩ = some (.int .u64 (lq.length : Int)) := (blk_cell HKP.out 4).trans rfl
              have pb5 : w16.cell? ⟨w15.heap.size, 5, none⟩ = some (.slice Apd PLd.length cpd) := (blk_cell HKP.out 5).trans rfl
              obtain ⟨-, -, -, -, -, -, -, kq0, kq1, kq2, kq3, kq4, kq5, -, -, -, -, -⟩ := KF.out w16 HM16.out
              rcases HCS.out with ⟨hfit, rfl, rfl, rfl⟩ | ⟨hfit, rfl, rfl, rfl⟩
              · have e1 : ((32 + (lq.length : Int)) != 32 + (lq.length : Int)) = false := by simp
                go_wp2_with fail
                refine (fits_yes Aq lq.length cq m w16 hlq (by omega) q1m).mono ?_
                rintro e w' ⟨rfl, rfl⟩
                go_wp2_with fail
                refine (num_same 0 w16).mono ?_
                rintro e w' ⟨rfl, rfl⟩
                go_wp2_with fail
                have hsm : spindlelaw08_sameRequest.f (lq.length + 1) fq 1 q2 q3 (lq.length : Int) lq fq 1 q2 q3 (lq.length : Int) lq = some true := by
                  unfold spindlelaw08_sameRequest.f
                  simp only [same_is lq (by omega) (lq.length + 1) (by omega), if_true, Option.bind_some, beq_self_eq_true]
                refine (spindlelaw08_sameRequest.calls (lq.length + 1) fq 1 q2 q3 (lq.length : Int) Apd cpd lq fq 1 q2 q3 (lq.length : Int) Aq cq lq true w16 (HCp.out _ HQ16.out) hcpd (HC1q.out _ HM16.out) hcq hsm).mono ?_
                rintro e wz ⟨rfl, hb⟩
                have HBZ := Lib.hid hb
                have HMz := Lib.hid (below_next HM16.out hb)
                clear hb
                obtain ⟨-, -, -, -, -, -, -, -, -, -, -, -, zq5, -, -, -, -, -⟩ := KF.out wz HMz.out
                go_wp2_with fail
                refine (fits_yes Aq lq.length cq m wz hlq (by omega) q1m).mono ?_
                rintro e w' ⟨rfl, rfl⟩
                go_wp2_with fail
                go_meet
                case rel => exact ⟨rfl, HBZ.out⟩
              · have e1 : ((32 : Int) != 32) = false := by simp
                have ev_q2 : (q2 != q2) = false := by simp
                have ev_lq : ((lq.length : Int) != (lq.length : Int)) = false := by simp
                go_wp2_with fail
                refine (fits_no Aq lq.length cq m w16 hlq q0m (by omega) q1m).mono ?_
                rintro e w' ⟨rfl, rfl⟩
                go_wp2_with fail
                refine (fits_no Aq lq.length cq m w16 hlq q0m (by omega) q1m).mono ?_
                rintro e w' ⟨rfl, rfl⟩
                go_wp2_with fail
                refine (num_same 12 w16).mono ?_
                rintro e w' ⟨rfl, rfl⟩
                go_wp2_with fail
                go_meet
                case rel => exact ⟨rfl, Below.refl _ _⟩
          case rest =>
            as_aux_lemma =>
              obtain ⟨rfl, hbw⟩ := hcut
              generalize wc = w17 at hbw ⊢
              have HM17 : Hid (Below w1.heap.size w1 w17) := Lib.hid (below_next HM16.out hbw)
              have R17g := Lib.hid (own_next R16g.out hbw)
              clear hbw HKP HQ16 HCp HCS
              clear R13g R14g R15g R16g
              skip
              go_wp2_with (at_builtin; go_must (refine wpList_append_bytes rfl (.tmp 319) (.tmp 320) 31 rfl 5 i0 (.int .u8 0) Try.underlying31 hi hz0 hz1 hz2 rfl (.slice Ag g.length cg) g rfl R17g.out Am lm lm.length cm rfl rfl (HC1m.out _ HM17.out) (by omega) ?_); intro v' w18 hown hgrow hnew; (rw [← HTg.out] at hown); (obtain ⟨ATg, cTg, rfl, hcTg, hCT⟩ := C_of_R (R_of_own hown)); (have HCTg := Lib.hid hCT); (have FR : Fr (fun k => (Value.slice Ag g.length cg).ownBlock = some k) w17 w18 := (Fr.refl _ _).grown hgrow (fun k hk => hk)); (have HM18 : Hid (Below w1.heap.size w1 w18) := Lib.hid (pw_below_grown HM17.out _ HM17.out.size hgrow (fun k hk => by have r1 := HRg.out k hk; have r3 := HS.out; omega))); skip; clear hown hgrow hnew FR hCT)
              obtain ⟨PLg, PNg, PEg, hG, hcaseg⟩ := Gg.out
              have HGg := Lib.hid hG
              have HCS := Lib.hid hcaseg
              clear hG hcaseg
              refine (wire_DecodeChunk.calls ATg cTg Tg m true c0 c1 c2 c3 PLg PNg PEg _ HCTg.out hcTg HGg.out).mono ?_
              rintro e w19 ⟨vp, rfl, hR, hb⟩
              obtain ⟨Apg, cpg, rfl, hcpg, hCp⟩ := C_of_R hR
              have HCp : Hid (∀ W, Below w19.heap.size w19 W → Kd.C (Kd.int .u8) W Apg PLg.length PLg) := Lib.hid fun W hW => Kd.C_below hCp hW
              have HM19 : Hid (Below w1.heap.size w1 w19) := Lib.hid (below_next HM18.out hb)
              clear hb hR hCp
              have HKP : Hid ((w19.alloc (.cells #[.int .u16 c0, .int .u16 c1, .int .u64 c2, .int .u64 c3, .slice Apg PLg.length cpg] 41)).heap[w19.heap.size]? = some (.cells #[.int .u16 c0, .int .u16 c1, .int .u64 c2, .int .u64 c3, .slice Apg PLg.length cpg] 41 (0, 0))) := Lib.hid (blk_new _ _)
              have HM20 : Hid (Below w1.heap.size w1 (w19.alloc (.cells #[.int .u16 c0, .int .u16 c1, .int .u64 c2, .int .u64 c3, .slice Apg PLg.length cpg] 41))) := Lib.hid (below_alloc HM19.out _)
              have HQ20 : Hid (Below w19.heap.size w19 (w19.alloc (.cells #[.int .u16 c0, .int .u16 c1, .int .u64 c2, .int .u64 c3, .slice Apg PLg.length cpg] 41))) := Lib.hid (below_alloc (Below.refl _ _) _)
              go_upto_region 25 with (fail)
              generalize hw8 : World.alloc w19 _ = w20
              rw [hw8] at HKP HM20 HQ20
              clear hw8
              go_cut [388] (fun vS wc => vS = .bool false ∧ Below w20.heap.size w20 wc)
              case first =>
                as_aux_lemma =>
                  skip
                  have pb0 : w20.cell? ⟨w19.heap.size, 0, none⟩ = some (.int .u16 c0) := (blk_cell HKP.out 0).trans rfl
                  have pb1 : w20.cell? ⟨w19.heap.size, 1, none⟩ = some (.int .u16 c1) := (blk_cell HKP.out 1).trans rfl
                  have pb2 : w20.cell? ⟨w19.heap.size, 2, none⟩ = some (.int .u64 c2) := (blk_cell HKP.out 2).trans rfl
                  have pb3 : w20.cell? ⟨w19.heap.size, 3, none⟩ = some (.int .u64 c3) := (blk_cell HKP.out 3).trans rfl
                  have pb4 : w20.cell? ⟨w19.heap.size, 4, none⟩ = some (.slice Apg PLg.length cpg) := (blk_cell HKP.out 4).trans rfl
                  obtain ⟨-, -, -, -, -, -, -, -, -, -, -, -, -, kc0, kc1, kc2, kc3, kc4⟩ := KF.out w20 HM20.out
                  rcases HCS.out with ⟨hfit, rfl, rfl, rfl⟩ | ⟨hfit, rfl, rfl, rfl⟩
                  · have e1 : ((32 + (lc.length : Int)) != 32 + (lc.length : Int)) = false := by simp
                    go_wp2_with fail
                    refine (fits_yes Ac lc.length cc m w20 hlc (by omega) q1m).mono ?_
                    rintro e w' ⟨rfl, rfl⟩
                    go_wp2_with fail
                    refine (num_same 0 w20).mono ?_
                    rintro e w' ⟨rfl, rfl⟩
                    go_wp2_with fail
                    have hsm : spindlelaw08_sameChunk.f (lc.length + 1) c0 c1 c2 c3 lc c0 c1 c2 c3 lc = some true := by
                      unfold spindlelaw08_sameChunk.f
                      simp only [same_is lc (by omega) (lc.length + 1) (by omega), if_true, Option.bind_some, beq_self_eq_true]
                    refine (spindlelaw08_sameChunk.calls (lc.length + 1) c0 c1 c2 c3 Apg cpg lc c0 c1 c2 c3 Ac cc lc true w20 (HCp.out _ HQ20.out) hcpg (HC1c.out _ HM20.out) hcc hsm).mono ?_
                    rintro e wz ⟨rfl, hb⟩
                    have HBZ := Lib.hid hb
                    have HMz := Lib.hid (below_next HM20.out hb)
                    clear hb
                    obtain ⟨-, -, -, -, -, -, -, -, -, -, -, -, -, -, -, -, -, zc4⟩ := KF.out wz HMz.out
                    go_wp2_with fail
                    refine (fits_yes Ac lc.length cc m wz hlc (by omega) q1m).mono ?_
                    rintro e w' ⟨rfl, rfl⟩
                    go_wp2_with fail
                    go_meet
                    case rel => exact ⟨rfl, HBZ.out⟩
                  · have e1 : ((32 : Int) != 32) = false := by simp
                    have ev_c2 : (c2 != c2) = false := by simp
                    have ev_c3 : (c3 != c3) = false := by simp
                    go_wp2_with fail
                    refine (fits_no Ac lc.length cc m w20 hlc q0m (by omega) q1m).mono ?_
                    rintro e w' ⟨rfl, rfl⟩
                    go_wp2_with fail
                    refine (fits_no Ac lc.length cc m w20 hlc q0m (by omega) q1m).mono ?_
                    rintro e w' ⟨rfl, rfl⟩
                    go_wp2_with fail
                    refine (num_same 12 w20).mono ?_
                    rintro e w' ⟨rfl, rfl⟩
                    go_wp2_with fail
                    go_meet
                    case rel => exact ⟨rfl, Below.refl _ _⟩
              case rest =>
                as_aux_lemma =>
                  obtain ⟨rfl, hbw⟩ := hcut
                  generalize wc = w21 at hbw ⊢
                  have HM21 : Hid (Below w1.heap.size w1 w21) := Lib.hid (below_next HM20.out hbw)
                  clear hbw HKP HQ20 HCp HCS
                  go_wp2_with fail
                  refine (spindlelaw08_alive.calls 40 true _ (by decide +kernel)).mono ?_
                  rintro e w99 ⟨rfl, hb⟩
                  have HM99 : Hid (Below w1.heap.size w1 w99) := Lib.hid (below_next HM21.out hb)
                  clear hb
                  go_wp2_with fail
                  go_ret
                  exact ⟨rfl, below_next HB1.out HM99.out⟩
end Go.Proofs.Ytilgfhiomcfmhaa.PureB
