/- WireEncodes, walked: every message that is laid down is the document's, to the byte; what is handed in stays. -/
import Derived.Test.YtilgfhiomcfmhaaPureEnc
import Derived.Test.YtilgfhiomcfmhaaTwn
import Derived.Deep.RegionHeld3
namespace Go.Proofs.Ytilgfhiomcfmhaa.PureE
open Go.RowKit Go.Proofs.Ytilgfhiomcfmhaa.Hand Go.Proofs.Ytilgfhiomcfmhaa.PE Go.Proofs.Ytilgfhiomcfmhaa.Octa Go.Proofs.YtilgfhiomcfmhaaW.PrintWords Go.Proofs.YtilgfhiomcfmhaaW.PrintLast
set_option linter.unusedSimpArgs false
set_option linter.unusedVariables false

theorem some_enco (o0 : Int) (o1 : Int) (o2 : Bool) (l : List Int) (ho0 : 0 ≤ o0 ∧ o0 ≤ 4294967295) (ho1 : 0 ≤ o1 ∧ o1 ≤ 4294967295) (hl : l.length ≤ 140737488351232) : ∃ r n, wire_EncodeOption.f o0 o1 o2 l = some (r, n) ∧ r.length ≤ 140737488355000 := by
  unfold wire_EncodeOption.f
  have hx : (0 ≤ o0 ∧ o0 ≤ 4294967295) ∧ (0 ≤ o1 ∧ o1 ≤ 4294967295) ∧ l.length ≤ 140737488355000 := ⟨ho0, ho1, by omega⟩
  rw [if_pos hx]
  repeat' split
  all_goals exact ⟨_, _, rfl, by simp [be_length]; try omega⟩
theorem some_encr (r0 : Int) (r1 : Int) (l : List Int) (hr0 : 0 ≤ r0 ∧ r0 ≤ 4294967295) (hr1 : 0 ≤ r1 ∧ r1 ≤ 4294967295) (hl : l.length ≤ 140737488351232) : ∃ r, wire_EncodeReply.f r0 r1 l = some r ∧ r.length ≤ 140737488355000 := by
  unfold wire_EncodeReply.f
  have hx : (0 ≤ r0 ∧ r0 ≤ 4294967295) ∧ (0 ≤ r1 ∧ r1 ≤ 4294967295) ∧ l.length ≤ 140737488355000 := ⟨hr0, hr1, by omega⟩
  rw [if_pos hx]
  repeat' split
  all_goals exact ⟨_, rfl, by simp [be_length]; try omega⟩
theorem some_encq (q0 : Int) (q1 : Int) (q2 : Int) (q3 : Int) (q4 : Int) (l : List Int) (x : Bool) (hq0 : 0 ≤ q0 ∧ q0 ≤ 65535) (hq1 : 0 ≤ q1 ∧ q1 ≤ 65535) (hq2 : 0 ≤ q2 ∧ q2 ≤ 18446744073709551615) (hq3 : 0 ≤ q3 ∧ q3 ≤ 18446744073709551615) (hq4 : 0 ≤ q4 ∧ q4 ≤ 18446744073709551615) (hl : l.length ≤ 140737488351232) : ∃ r n, wire_EncodeRequest.f q0 q1 q2 q3 q4 l x = some (r, n) ∧ r.length ≤ 140737488355000 := by
  unfold wire_EncodeRequest.f
  have hx : (0 ≤ q0 ∧ q0 ≤ 65535) ∧ (0 ≤ q1 ∧ q1 ≤ 65535) ∧ (0 ≤ q4 ∧ q4 ≤ 18446744073709551615) ∧ l.length ≤ 140737488355000 := ⟨hq0, hq1, hq4, by omega⟩
  rw [if_pos hx]
  repeat' split
  all_goals exact ⟨_, _, rfl, by simp [be_length]; try omega⟩
theorem some_encc (c0 : Int) (c1 : Int) (c2 : Int) (c3 : Int) (l : List Int) (x : Bool) (hc0 : 0 ≤ c0 ∧ c0 ≤ 65535) (hc1 : 0 ≤ c1 ∧ c1 ≤ 65535) (hc2 : 0 ≤ c2 ∧ c2 ≤ 18446744073709551615) (hc3 : 0 ≤ c3 ∧ c3 ≤ 18446744073709551615) (hl : l.length ≤ 140737488351232) : ∃ r, wire_EncodeChunk.f c0 c1 c2 c3 l x = some r ∧ r.length ≤ 140737488355000 := by
  unfold wire_EncodeChunk.f
  have hx : (0 ≤ c0 ∧ c0 ≤ 65535) ∧ (0 ≤ c1 ∧ c1 ≤ 65535) ∧ l.length ≤ 140737488355000 := ⟨hc0, hc1, by omega⟩
  rw [if_pos hx]
  repeat' split
  all_goals exact ⟨_, rfl, by simp [be_length]; try omega⟩
theorem _root_.Go.Proofs.Ytilgfhiomcfmhaa.Hand.Blk.far {w : World} {g : Nat} {L : List Int} (h : Blk w g L) {p : Addr} (hp : g ≠ p.block) (v : Value) : Blk (w.setCell p v) g L :=
  ⟨own_move h.own fun k hk => Below.heap_setCell w p v k (by have : g = k := by simpa [Value.ownBlock] using hk
                                                             omega)⟩
theorem below_next {w a b : World} (h : Below w.heap.size w a) (hb : Below a.heap.size a b) : Below w.heap.size w b := below_then h h.size hb
theorem four (w : World) (a b c d : Obj) : (World.drew ((((w.alloc a).alloc b).alloc c).alloc d)).heap[w.heap.size]? = some a ∧ (World.drew ((((w.alloc a).alloc b).alloc c).alloc d)).heap[w.heap.size + 1]? = some b ∧ (World.drew ((((w.alloc a).alloc b).alloc c).alloc d)).heap[w.heap.size + 1 + 1]? = some c ∧ (World.drew ((((w.alloc a).alloc b).alloc c).alloc d)).heap[w.heap.size + 1 + 1 + 1]? = some d := by
  refine ⟨blk_alloc (blk_alloc (blk_alloc (blk_new _ _) _) _) _, ?_, ?_, ?_⟩
  · have := blk_alloc (blk_alloc (blk_new (w.alloc a) b) c) d
    rw [World.size_alloc] at this
    exact this
  · have := blk_alloc (blk_new ((w.alloc a).alloc b) c) d
    rw [World.size_alloc, World.size_alloc] at this
    exact this
  · have := blk_new (((w.alloc a).alloc b).alloc c) d
    rw [World.size_alloc, World.size_alloc, World.size_alloc] at this
    exact this

set_option maxHeartbeats 4000000 in
set_option maxRecDepth 100000 in
theorem WireEncodes_walk (o0 : Int) (o1 : Int) (o2 : Bool) (Ao : Option Addr) (lo : List Int) (co : Nat) (r0 : Int) (r1 : Int) (Ar : Option Addr) (lr : List Int) (cr : Nat) (q0 : Int) (q1 : Int) (q2 : Int) (q3 : Int) (q4 : Int) (Aq : Option Addr) (lq : List Int) (cq : Nat) (c0 : Int) (c1 : Int) (c2 : Int) (c3 : Int) (Ac : Option Addr) (lc : List Int) (cc : Nat) (x : Bool) (w : World) (hCo : Kd.C (Kd.int .u8) w Ao lo.length lo) (hco : lo.length ≤ co) (hlo : lo.length ≤ 140737488351232) (ho0 : 0 ≤ o0 ∧ o0 ≤ 4294967295) (ho1 : 0 ≤ o1 ∧ o1 ≤ 4294967295) (hCr : Kd.C (Kd.int .u8) w Ar lr.length lr) (hcr : lr.length ≤ cr) (hlr : lr.length ≤ 140737488351232) (hr0 : 0 ≤ r0 ∧ r0 ≤ 4294967295) (hr1 : 0 ≤ r1 ∧ r1 ≤ 4294967295) (hCq : Kd.C (Kd.int .u8) w Aq lq.length lq) (hcq : lq.length ≤ cq) (hlq : lq.length ≤ 140737488351232) (hq0 : 0 ≤ q0 ∧ q0 ≤ 65535) (hq1 : 0 ≤ q1 ∧ q1 ≤ 65535) (hq2 : 0 ≤ q2 ∧ q2 ≤ 18446744073709551615) (hq3 : 0 ≤ q3 ∧ q3 ≤ 18446744073709551615) (hq4 : 0 ≤ q4 ∧ q4 ≤ 18446744073709551615) (hCc : Kd.C (Kd.int .u8) w Ac lc.length lc) (hcc : lc.length ≤ cc) (hlc : lc.length ≤ 140737488351232) (hc0 : 0 ≤ c0 ∧ c0 ≤ 65535) (hc1 : 0 ≤ c1 ∧ c1 ≤ 65535) (hc2 : 0 ≤ c2 ∧ c2 ≤ 18446744073709551615) (hc3 : 0 ≤ c3 ∧ c3 ≤ 18446744073709551615) :
    Calls Try.prog 6 #[.agg #[.int .u32 o0, .int .u32 o1, .bool o2, .slice Ao lo.length co], .agg #[.int .u32 r0, .int .u32 r1, .slice Ar lr.length cr], .agg #[.int .u16 q0, .int .u16 q1, .int .u64 q2, .int .u64 q3, .int .u64 q4, .slice Aq lq.length cq], .agg #[.int .u16 c0, .int .u16 c1, .int .u64 c2, .int .u64 c3, .slice Ac lc.length cc], .bool x] w fun e w' => e = .returned (.bool true) ∧ Below w.heap.size w w' := by
  have HCo := Lib.hid hCo
  have HCr := Lib.hid hCr
  have HCq := Lib.hid hCq
  have HCc := Lib.hid hCc
  clear hCo hCr hCq hCc
  have Ko : Hid ((((((w.alloc (.cells #[.int .u32 o0, .int .u32 o1, .bool o2, .slice Ao lo.length co] 33)).alloc (.cells #[.int .u32 r0, .int .u32 r1, .slice Ar lr.length cr] 35)).alloc (.cells #[.int .u16 q0, .int .u16 q1, .int .u64 q2, .int .u64 q3, .int .u64 q4, .slice Aq lq.length cq] 39)).alloc (.cells #[.int .u16 c0, .int .u16 c1, .int .u64 c2, .int .u64 c3, .slice Ac lc.length cc] 41)).alloc (.cells #[.slice Ao lo.length co, .slice Ar lr.length cr, .slice Aq lq.length cq, .slice Ac lc.length cc] 42)).heap[w.heap.size]? = some (.cells #[.int .u32 o0, .int .u32 o1, .bool o2, .slice Ao lo.length co] 33 (0, 0))) := Lib.hid (by refine blk_alloc ?_ _; refine blk_alloc ?_ _; refine blk_alloc ?_ _; refine blk_alloc ?_ _; exact blk_new _ _)
  have Kr : Hid ((((((w.alloc (.cells #[.int .u32 o0, .int .u32 o1, .bool o2, .slice Ao lo.length co] 33)).alloc (.cells #[.int .u32 r0, .int .u32 r1, .slice Ar lr.length cr] 35)).alloc (.cells #[.int .u16 q0, .int .u16 q1, .int .u64 q2, .int .u64 q3, .int .u64 q4, .slice Aq lq.length cq] 39)).alloc (.cells #[.int .u16 c0, .int .u16 c1, .int .u64 c2, .int .u64 c3, .slice Ac lc.length cc] 41)).alloc (.cells #[.slice Ao lo.length co, .slice Ar lr.length cr, .slice Aq lq.length cq, .slice Ac lc.length cc] 42)).heap[(w.heap.size + 1)]? = some (.cells #[.int .u32 r0, .int .u32 r1, .slice Ar lr.length cr] 35 (0, 0))) := Lib.hid (by refine blk_alloc ?_ _; refine blk_alloc ?_ _; refine blk_alloc ?_ _; have := blk_new (w.alloc (.cells #[.int .u32 o0, .int .u32 o1, .bool o2, .slice Ao lo.length co] 33)) (.cells #[.int .u32 r0, .int .u32 r1, .slice Ar lr.length cr] 35); simpa using this)
  have Kq : Hid ((((((w.alloc (.cells #[.int .u32 o0, .int .u32 o1, .bool o2, .slice Ao lo.length co] 33)).alloc (.cells #[.int .u32 r0, .int .u32 r1, .slice Ar lr.length cr] 35)).alloc (.cells #[.int .u16 q0, .int .u16 q1, .int .u64 q2, .int .u64 q3, .int .u64 q4, .slice Aq lq.length cq] 39)).alloc (.cells #[.int .u16 c0, .int .u16 c1, .int .u64 c2, .int .u64 c3, .slice Ac lc.length cc] 41)).alloc (.cells #[.slice Ao lo.length co, .slice Ar lr.length cr, .slice Aq lq.length cq, .slice Ac lc.length cc] 42)).heap[(w.heap.size + 1 + 1)]? = some (.cells #[.int .u16 q0, .int .u16 q1, .int .u64 q2, .int .u64 q3, .int .u64 q4, .slice Aq lq.length cq] 39 (0, 0))) := Lib.hid (by refine blk_alloc ?_ _; refine blk_alloc ?_ _; have := blk_new ((w.alloc (.cells #[.int .u32 o0, .int .u32 o1, .bool o2, .slice Ao lo.length co] 33)).alloc (.cells #[.int .u32 r0, .int .u32 r1, .slice Ar lr.length cr] 35)) (.cells #[.int .u16 q0, .int .u16 q1, .int .u64 q2, .int .u64 q3, .int .u64 q4, .slice Aq lq.length cq] 39); simpa using this)
  have Kc : Hid ((((((w.alloc (.cells #[.int .u32 o0, .int .u32 o1, .bool o2, .slice Ao lo.length co] 33)).alloc (.cells #[.int .u32 r0, .int .u32 r1, .slice Ar lr.length cr] 35)).alloc (.cells #[.int .u16 q0, .int .u16 q1, .int .u64 q2, .int .u64 q3, .int .u64 q4, .slice Aq lq.length cq] 39)).alloc (.cells #[.int .u16 c0, .int .u16 c1, .int .u64 c2, .int .u64 c3, .slice Ac lc.length cc] 41)).alloc (.cells #[.slice Ao lo.length co, .slice Ar lr.length cr, .slice Aq lq.length cq, .slice Ac lc.length cc] 42)).heap[(w.heap.size + 1 + 1 + 1)]? = some (.cells #[.int .u16 c0, .int .u16 c1, .int .u64 c2, .int .u64 c3, .slice Ac lc.length cc] 41 (0, 0))) := Lib.hid (by refine blk_alloc ?_ _; have := blk_new (((w.alloc (.cells #[.int .u32 o0, .int .u32 o1, .bool o2, .slice Ao lo.length co] 33)).alloc (.cells #[.int .u32 r0, .int .u32 r1, .slice Ar lr.length cr] 35)).alloc (.cells #[.int .u16 q0, .int .u16 q1, .int .u64 q2, .int .u64 q3, .int .u64 q4, .slice Aq lq.length cq] 39)) (.cells #[.int .u16 c0, .int .u16 c1, .int .u64 c2, .int .u64 c3, .slice Ac lc.length cc] 41); simpa using this)
  have KD : Hid ((((((w.alloc (.cells #[.int .u32 o0, .int .u32 o1, .bool o2, .slice Ao lo.length co] 33)).alloc (.cells #[.int .u32 r0, .int .u32 r1, .slice Ar lr.length cr] 35)).alloc (.cells #[.int .u16 q0, .int .u16 q1, .int .u64 q2, .int .u64 q3, .int .u64 q4, .slice Aq lq.length cq] 39)).alloc (.cells #[.int .u16 c0, .int .u16 c1, .int .u64 c2, .int .u64 c3, .slice Ac lc.length cc] 41)).alloc (.cells #[.slice Ao lo.length co, .slice Ar lr.length cr, .slice Aq lq.length cq, .slice Ac lc.length cc] 42)).heap[(w.heap.size + 1 + 1 + 1 + 1)]? = some (.cells #[.slice Ao lo.length co, .slice Ar lr.length cr, .slice Aq lq.length cq, .slice Ac lc.length cc] 42 (0, 0))) := Lib.hid (by have := blk_new ((((w.alloc (.cells #[.int .u32 o0, .int .u32 o1, .bool o2, .slice Ao lo.length co] 33)).alloc (.cells #[.int .u32 r0, .int .u32 r1, .slice Ar lr.length cr] 35)).alloc (.cells #[.int .u16 q0, .int .u16 q1, .int .u64 q2, .int .u64 q3, .int .u64 q4, .slice Aq lq.length cq] 39)).alloc (.cells #[.int .u16 c0, .int .u16 c1, .int .u64 c2, .int .u64 c3, .slice Ac lc.length cc] 41)) (.cells #[.slice Ao lo.length co, .slice Ar lr.length cr, .slice Aq lq.length cq, .slice Ac lc.length cc] 42); simpa using this)
  have HB1 : Hid (Below w.heap.size w (((((w.alloc (.cells #[.int .u32 o0, .int .u32 o1, .bool o2, .slice Ao lo.length co] 33)).alloc (.cells #[.int .u32 r0, .int .u32 r1, .slice Ar lr.length cr] 35)).alloc (.cells #[.int .u16 q0, .int .u16 q1, .int .u64 q2, .int .u64 q3, .int .u64 q4, .slice Aq lq.length cq] 39)).alloc (.cells #[.int .u16 c0, .int .u16 c1, .int .u64 c2, .int .u64 c3, .slice Ac lc.length cc] 41)).alloc (.cells #[.slice Ao lo.length co, .slice Ar lr.length cr, .slice Aq lq.length cq, .slice Ac lc.length cc] 42))) := Lib.hid (below_alloc (below_alloc (below_alloc (below_alloc (below_alloc (Below.refl _ _) _) _) _) _) _)
  have HS1 : Hid ((((((w.alloc (.cells #[.int .u32 o0, .int .u32 o1, .bool o2, .slice Ao lo.length co] 33)).alloc (.cells #[.int .u32 r0, .int .u32 r1, .slice Ar lr.length cr] 35)).alloc (.cells #[.int .u16 q0, .int .u16 q1, .int .u64 q2, .int .u64 q3, .int .u64 q4, .slice Aq lq.length cq] 39)).alloc (.cells #[.int .u16 c0, .int .u16 c1, .int .u64 c2, .int .u64 c3, .slice Ac lc.length cc] 41)).alloc (.cells #[.slice Ao lo.length co, .slice Ar lr.length cr, .slice Aq lq.length cq, .slice Ac lc.length cc] 42)).heap.size = w.heap.size + 5) := Lib.hid (by simp)
  go_enter Try.func6, Try.ntmps6
  go_upto_region 2 with (fail)
  generalize hw1 : World.alloc (World.alloc (World.alloc (World.alloc (World.alloc w _) _) _) _) _ = w1
  rw [hw1] at Ko Kr Kq Kc KD HB1 HS1
  clear hw1
  have HE : Hid (w.heap.size + 1 = w.heap.size + 1) := Lib.hid rfl
  obtain ⟨bD, hbD⟩ : ∃ b, w.heap.size + 1 + 1 + 1 + 1 = b := ⟨_, rfl⟩
  rw [hbD] at KD ⊢
  obtain ⟨b8, hb8⟩ : ∃ b, w.heap.size + 1 + 1 + 1 = b := ⟨_, rfl⟩
  rw [hb8] at Kc ⊢
  obtain ⟨b7, hb7⟩ : ∃ b, w.heap.size + 1 + 1 = b := ⟨_, rfl⟩
  rw [hb7] at Kq ⊢
  obtain ⟨b6, hb6⟩ : ∃ b, w.heap.size + 1 = b := ⟨_, rfl⟩
  rw [hb6] at Kr ⊢
  have hs1 := HS1.out
  have HEQ : Hid (b6 = w.heap.size + 1 ∧ b7 = w.heap.size + 2 ∧ b8 = w.heap.size + 3 ∧ bD = w.heap.size + 4 ∧ w1.heap.size = w.heap.size + 5) := Lib.hid (by omega)
  have nw0 : ¬ w.heap.size = w1.heap.size := by omega
  have mw0 : ¬ w1.heap.size = w.heap.size := by omega
  have lw0 : w.heap.size < w1.heap.size := by omega
  have nw1 : ¬ w.heap.size = w1.heap.size + 1 := by omega
  have mw1 : ¬ w1.heap.size + 1 = w.heap.size := by omega
  have lw1 : w.heap.size < w1.heap.size + 1 := by omega
  have nw2 : ¬ w.heap.size = w1.heap.size + 1 + 1 := by omega
  have mw2 : ¬ w1.heap.size + 1 + 1 = w.heap.size := by omega
  have lw2 : w.heap.size < w1.heap.size + 1 + 1 := by omega
  have nw3 : ¬ w.heap.size = w1.heap.size + 1 + 1 + 1 := by omega
  have mw3 : ¬ w1.heap.size + 1 + 1 + 1 = w.heap.size := by omega
  have lw3 : w.heap.size < w1.heap.size + 1 + 1 + 1 := by omega
  have nb60 : ¬ b6 = w1.heap.size := by omega
  have mb60 : ¬ w1.heap.size = b6 := by omega
  have lb60 : b6 < w1.heap.size := by omega
  have nb61 : ¬ b6 = w1.heap.size + 1 := by omega
  have mb61 : ¬ w1.heap.size + 1 = b6 := by omega
  have lb61 : b6 < w1.heap.size + 1 := by omega
  have nb62 : ¬ b6 = w1.heap.size + 1 + 1 := by omega
  have mb62 : ¬ w1.heap.size + 1 + 1 = b6 := by omega
  have lb62 : b6 < w1.heap.size + 1 + 1 := by omega
  have nb63 : ¬ b6 = w1.heap.size + 1 + 1 + 1 := by omega
  have mb63 : ¬ w1.heap.size + 1 + 1 + 1 = b6 := by omega
  have lb63 : b6 < w1.heap.size + 1 + 1 + 1 := by omega
  have nb70 : ¬ b7 = w1.heap.size := by omega
  have mb70 : ¬ w1.heap.size = b7 := by omega
  have lb70 : b7 < w1.heap.size := by omega
  have nb71 : ¬ b7 = w1.heap.size + 1 := by omega
  have mb71 : ¬ w1.heap.size + 1 = b7 := by omega
  have lb71 : b7 < w1.heap.size + 1 := by omega
  have nb72 : ¬ b7 = w1.heap.size + 1 + 1 := by omega
  have mb72 : ¬ w1.heap.size + 1 + 1 = b7 := by omega
  have lb72 : b7 < w1.heap.size + 1 + 1 := by omega
  have nb73 : ¬ b7 = w1.heap.size + 1 + 1 + 1 := by omega
  have mb73 : ¬ w1.heap.size + 1 + 1 + 1 = b7 := by omega
  have lb73 : b7 < w1.heap.size + 1 + 1 + 1 := by omega
  have nb80 : ¬ b8 = w1.heap.size := by omega
  have mb80 : ¬ w1.heap.size = b8 := by omega
  have lb80 : b8 < w1.heap.size := by omega
  have nb81 : ¬ b8 = w1.heap.size + 1 := by omega
  have mb81 : ¬ w1.heap.size + 1 = b8 := by omega
  have lb81 : b8 < w1.heap.size + 1 := by omega
  have nb82 : ¬ b8 = w1.heap.size + 1 + 1 := by omega
  have mb82 : ¬ w1.heap.size + 1 + 1 = b8 := by omega
  have lb82 : b8 < w1.heap.size + 1 + 1 := by omega
  have nb83 : ¬ b8 = w1.heap.size + 1 + 1 + 1 := by omega
  have mb83 : ¬ w1.heap.size + 1 + 1 + 1 = b8 := by omega
  have lb83 : b8 < w1.heap.size + 1 + 1 + 1 := by omega
  clear hbD hb8 hb7 hb6 hs1 HE HS1
  have ko0 : w1.cell? ⟨w.heap.size, 0, none⟩ = some (.int .u32 o0) := (blk_cell Ko.out 0).trans rfl
  have ko1 : w1.cell? ⟨w.heap.size, 1, none⟩ = some (.int .u32 o1) := (blk_cell Ko.out 1).trans rfl
  have ko2 : w1.cell? ⟨w.heap.size, 2, none⟩ = some (.bool o2) := (blk_cell Ko.out 2).trans rfl
  have ko3 : w1.cell? ⟨w.heap.size, 3, none⟩ = some (.slice Ao lo.length co) := (blk_cell Ko.out 3).trans rfl
  have kr0 : w1.cell? ⟨b6, 0, none⟩ = some (.int .u32 r0) := (blk_cell Kr.out 0).trans rfl
  have kr1 : w1.cell? ⟨b6, 1, none⟩ = some (.int .u32 r1) := (blk_cell Kr.out 1).trans rfl
  have kr2 : w1.cell? ⟨b6, 2, none⟩ = some (.slice Ar lr.length cr) := (blk_cell Kr.out 2).trans rfl
  have kq0 : w1.cell? ⟨b7, 0, none⟩ = some (.int .u16 q0) := (blk_cell Kq.out 0).trans rfl
  have kq1 : w1.cell? ⟨b7, 1, none⟩ = some (.int .u16 q1) := (blk_cell Kq.out 1).trans rfl
  have kq2 : w1.cell? ⟨b7, 2, none⟩ = some (.int .u64 q2) := (blk_cell Kq.out 2).trans rfl
  have kq3 : w1.cell? ⟨b7, 3, none⟩ = some (.int .u64 q3) := (blk_cell Kq.out 3).trans rfl
  have kq4 : w1.cell? ⟨b7, 4, none⟩ = some (.int .u64 q4) := (blk_cell Kq.out 4).trans rfl
  have kq5 : w1.cell? ⟨b7, 5, none⟩ = some (.slice Aq lq.length cq) := (blk_cell Kq.out 5).trans rfl
  have kc0 : w1.cell? ⟨b8, 0, none⟩ = some (.int .u16 c0) := (blk_cell Kc.out 0).trans rfl
  have kc1 : w1.cell? ⟨b8, 1, none⟩ = some (.int .u16 c1) := (blk_cell Kc.out 1).trans rfl
  have kc2 : w1.cell? ⟨b8, 2, none⟩ = some (.int .u64 c2) := (blk_cell Kc.out 2).trans rfl
  have kc3 : w1.cell? ⟨b8, 3, none⟩ = some (.int .u64 c3) := (blk_cell Kc.out 3).trans rfl
  have kc4 : w1.cell? ⟨b8, 4, none⟩ = some (.slice Ac lc.length cc) := (blk_cell Kc.out 4).trans rfl
  go_cut [12, 13, 14, 15] (fun v12 v13 v14 v15 wc => ∃ b12 b13 b14 b15 : Nat, v12 = .pointer (some ⟨b12, 0, none⟩) ∧ v13 = .pointer (some ⟨b13, 0, none⟩) ∧ v14 = .pointer (some ⟨b14, 0, none⟩) ∧ v15 = .pointer (some ⟨b15, 0, none⟩) ∧ wc.heap[b12]? = some (.cells #[.int .u32 o0, .int .u32 o1, .bool o2, .slice Ao lo.length co] 33 (0, 0)) ∧ wc.heap[b13]? = some (.cells #[.int .u32 r0, .int .u32 r1, .slice Ar lr.length cr] 35 (0, 0)) ∧ wc.heap[b14]? = some (.cells #[.int .u16 q0, .int .u16 q1, .int .u64 q2, .int .u64 q3, .int .u64 q4, .slice Aq lq.length cq] 39 (0, 0)) ∧ wc.heap[b15]? = some (.cells #[.int .u16 c0, .int .u16 c1, .int .u64 c2, .int .u64 c3, .slice Ac lc.length cc] 41 (0, 0)) ∧ b12 ≠ b13 ∧ b12 ≠ b14 ∧ b12 ≠ b15 ∧ b13 ≠ b14 ∧ b13 ≠ b15 ∧ b14 ≠ b15 ∧ w1.heap.size ≤ b12 ∧ w1.heap.size ≤ b13 ∧ w1.heap.size ≤ b14 ∧ w1.heap.size ≤ b15 ∧ Below w1.heap.size w1 wc)
  case first =>
    have KS : Hid (∀ W, Below w1.heap.size w1 W → (W.cell? ⟨w.heap.size, 0, none⟩ = some (.int .u32 o0) ∧ W.cell? ⟨w.heap.size, 1, none⟩ = some (.int .u32 o1) ∧ W.cell? ⟨w.heap.size, 2, none⟩ = some (.bool o2) ∧ W.cell? ⟨w.heap.size, 3, none⟩ = some (.slice Ao lo.length co) ∧ W.cell? ⟨b6, 0, none⟩ = some (.int .u32 r0) ∧ W.cell? ⟨b6, 1, none⟩ = some (.int .u32 r1) ∧ W.cell? ⟨b6, 2, none⟩ = some (.slice Ar lr.length cr) ∧ W.cell? ⟨b7, 0, none⟩ = some (.int .u16 q0) ∧ W.cell? ⟨b7, 1, none⟩ = some (.int .u16 q1) ∧ W.cell? ⟨b7, 2, none⟩ = some (.int .u64 q2) ∧ W.cell? ⟨b7, 3, none⟩ = some (.int .u64 q3) ∧ W.cell? ⟨b7, 4, none⟩ = some (.int .u64 q4) ∧ W.cell? ⟨b7, 5, none⟩ = some (.slice Aq lq.length cq) ∧ W.cell? ⟨b8, 0, none⟩ = some (.int .u16 c0) ∧ W.cell? ⟨b8, 1, none⟩ = some (.int .u16 c1) ∧ W.cell? ⟨b8, 2, none⟩ = some (.int .u64 c2) ∧ W.cell? ⟨b8, 3, none⟩ = some (.int .u64 c3) ∧ W.cell? ⟨b8, 4, none⟩ = some (.slice Ac lc.length cc))) := Lib.hid fun W hW => ⟨pw_cell_below hW ko0, pw_cell_below hW ko1, pw_cell_below hW ko2, pw_cell_below hW ko3, pw_cell_below hW kr0, pw_cell_below hW kr1, pw_cell_below hW kr2, pw_cell_below hW kq0, pw_cell_below hW kq1, pw_cell_below hW kq2, pw_cell_below hW kq3, pw_cell_below hW kq4, pw_cell_below hW kq5, pw_cell_below hW kc0, pw_cell_below hW kc1, pw_cell_below hW kc2, pw_cell_below hW kc3, pw_cell_below hW kc4⟩
    clear ko0 ko1 ko2 ko3 kr0 kr1 kr2 kq0 kq1 kq2 kq3 kq4 kq5 kc0 kc1 kc2 kc3 kc4
    clear nw0 nw1 nw2 nw3 nb60 nb61 nb62 nb63 nb70 nb71 nb72 nb73 nb80 nb81 nb82 nb83 mw0 mw1 mw2 mw3 mb60 mb61 mb62 mb63 mb70 mb71 mb72 mb73 mb80 mb81 mb82 mb83 lw0 lw1 lw2 lw3 lb60 lb61 lb62 lb63 lb70 lb71 lb72 lb73 lb80 lb81 lb82 lb83
    go_region_held3 (fun w' => w'.cell? ⟨w.heap.size, 0, none⟩ = some (.int .u32 o0) ∧ w'.cell? ⟨w.heap.size, 1, none⟩ = some (.int .u32 o1) ∧ w'.cell? ⟨w.heap.size, 2, none⟩ = some (.bool o2) ∧ w'.cell? ⟨w.heap.size, 3, none⟩ = some (.slice Ao lo.length co) ∧ w'.cell? ⟨b6, 0, none⟩ = some (.int .u32 r0) ∧ w'.cell? ⟨b6, 1, none⟩ = some (.int .u32 r1) ∧ w'.cell? ⟨b6, 2, none⟩ = some (.slice Ar lr.length cr) ∧ w'.cell? ⟨b7, 0, none⟩ = some (.int .u16 q0) ∧ w'.cell? ⟨b7, 1, none⟩ = some (.int .u16 q1) ∧ w'.cell? ⟨b7, 2, none⟩ = some (.int .u64 q2) ∧ w'.cell? ⟨b7, 3, none⟩ = some (.int .u64 q3) ∧ w'.cell? ⟨b7, 4, none⟩ = some (.int .u64 q4) ∧ w'.cell? ⟨b7, 5, none⟩ = some (.slice Aq lq.length cq) ∧ w'.cell? ⟨b8, 0, none⟩ = some (.int .u16 c0) ∧ w'.cell? ⟨b8, 1, none⟩ = some (.int .u16 c1) ∧ w'.cell? ⟨b8, 2, none⟩ = some (.int .u64 c2) ∧ w'.cell? ⟨b8, 3, none⟩ = some (.int .u64 c3) ∧ w'.cell? ⟨b8, 4, none⟩ = some (.slice Ac lc.length cc)) ((refine KS.out _ ?_; (repeat (first | (with_reducible exact Below.refl _ _) | (with_reducible refine below_alloc ?_ _) | (with_reducible refine below_drew ?_) | (with_reducible refine pw_below_drewN ?_ _) | (with_reducible refine Below.setCell ?_ (by first | exact Nat.le_refl _ | (simp; done) | (simp; omega) | omega) _))))) (first | fail)
    all_goals (go_wp2_with fail; go_meet; case rel => exact ⟨_, _, _, _, rfl, rfl, rfl, rfl, (by first | (with_reducible exact (four _ _ _ _ _).1) | (with_reducible exact (four _ _ _ _ _).2.1) | (with_reducible exact (four _ _ _ _ _).2.2.1) | (with_reducible exact (four _ _ _ _ _).2.2.2)), (by first | (with_reducible exact (four _ _ _ _ _).1) | (with_reducible exact (four _ _ _ _ _).2.1) | (with_reducible exact (four _ _ _ _ _).2.2.1) | (with_reducible exact (four _ _ _ _ _).2.2.2)), (by first | (with_reducible exact (four _ _ _ _ _).1) | (with_reducible exact (four _ _ _ _ _).2.1) | (with_reducible exact (four _ _ _ _ _).2.2.1) | (with_reducible exact (four _ _ _ _ _).2.2.2)), (by first | (with_reducible exact (four _ _ _ _ _).1) | (with_reducible exact (four _ _ _ _ _).2.1) | (with_reducible exact (four _ _ _ _ _).2.2.1) | (with_reducible exact (four _ _ _ _ _).2.2.2)), by omega, by omega, by omega, by omega, by omega, by omega, by omega, by omega, by omega, by omega, by (repeat (first | (with_reducible exact Below.refl _ _) | (with_reducible refine below_alloc ?_ _) | (with_reducible refine below_drew ?_) | (with_reducible refine pw_below_drewN ?_ _) | (with_reducible refine Below.setCell ?_ (by first | exact Nat.le_refl _ | (simp; done) | (simp; omega) | omega) _)))⟩)
  case rest =>
    obtain ⟨b12, b13, b14, b15, rfl, rfl, rfl, rfl, K12, K13, K14, K15, d1, d2, d3, d4, d5, d6, g12, g13, g14, g15, hB2⟩ := hcut
    clear nw0 nw1 nw2 nw3 nb60 nb61 nb62 nb63 nb70 nb71 nb72 nb73 nb80 nb81 nb82 nb83 mw0 mw1 mw2 mw3 mb60 mb61 mb62 mb63 mb70 mb71 mb72 mb73 mb80 mb81 mb82 mb83 lw0 lw1 lw2 lw3 lb60 lb61 lb62 lb63 lb70 lb71 lb72 lb73 lb80 lb81 lb82 lb83
    have KS : Hid (∀ W, Below w1.heap.size w1 W → (W.cell? ⟨w.heap.size, 3, none⟩ = some (.slice Ao lo.length co) ∧ W.cell? ⟨b6, 2, none⟩ = some (.slice Ar lr.length cr) ∧ W.cell? ⟨b7, 5, none⟩ = some (.slice Aq lq.length cq) ∧ W.cell? ⟨b8, 4, none⟩ = some (.slice Ac lc.length cc))) := Lib.hid fun W hW => ⟨pw_cell_below hW ko3, pw_cell_below hW kr2, pw_cell_below hW kq5, pw_cell_below hW kc4⟩
    have KF : Hid (∀ W, Below w1.heap.size w1 W → (W.cell? ⟨w.heap.size, 0, none⟩ = some (.int .u32 o0) ∧ W.cell? ⟨w.heap.size, 1, none⟩ = some (.int .u32 o1) ∧ W.cell? ⟨w.heap.size, 2, none⟩ = some (.bool o2) ∧ W.cell? ⟨w.heap.size, 3, none⟩ = some (.slice Ao lo.length co) ∧ W.cell? ⟨b6, 0, none⟩ = some (.int .u32 r0) ∧ W.cell? ⟨b6, 1, none⟩ = some (.int .u32 r1) ∧ W.cell? ⟨b6, 2, none⟩ = some (.slice Ar lr.length cr) ∧ W.cell? ⟨b7, 0, none⟩ = some (.int .u16 q0) ∧ W.cell? ⟨b7, 1, none⟩ = some (.int .u16 q1) ∧ W.cell? ⟨b7, 2, none⟩ = some (.int .u64 q2) ∧ W.cell? ⟨b7, 3, none⟩ = some (.int .u64 q3) ∧ W.cell? ⟨b7, 4, none⟩ = some (.int .u64 q4) ∧ W.cell? ⟨b7, 5, none⟩ = some (.slice Aq lq.length cq) ∧ W.cell? ⟨b8, 0, none⟩ = some (.int .u16 c0) ∧ W.cell? ⟨b8, 1, none⟩ = some (.int .u16 c1) ∧ W.cell? ⟨b8, 2, none⟩ = some (.int .u64 c2) ∧ W.cell? ⟨b8, 3, none⟩ = some (.int .u64 c3) ∧ W.cell? ⟨b8, 4, none⟩ = some (.slice Ac lc.length cc))) := Lib.hid fun W hW => ⟨pw_cell_below hW ko0, pw_cell_below hW ko1, pw_cell_below hW ko2, pw_cell_below hW ko3, pw_cell_below hW kr0, pw_cell_below hW kr1, pw_cell_below hW kr2, pw_cell_below hW kq0, pw_cell_below hW kq1, pw_cell_below hW kq2, pw_cell_below hW kq3, pw_cell_below hW kq4, pw_cell_below hW kq5, pw_cell_below hW kc0, pw_cell_below hW kc1, pw_cell_below hW kc2, pw_cell_below hW kc3, pw_cell_below hW kc4⟩
    clear ko0 ko1 ko2 ko3 kr0 kr1 kr2 kq0 kq1 kq2 kq3 kq4 kq5 kc0 kc1 kc2 kc3 kc4
    have hw1 := HB1.out.size
    have HC1o : Hid (∀ W, Below w1.heap.size w1 W → Kd.C (Kd.int .u8) W Ao lo.length lo) := Lib.hid fun W hW => Kd.C_below HCo.out (below_next HB1.out hW)
    have HC1r : Hid (∀ W, Below w1.heap.size w1 W → Kd.C (Kd.int .u8) W Ar lr.length lr) := Lib.hid fun W hW => Kd.C_below HCr.out (below_next HB1.out hW)
    have HC1q : Hid (∀ W, Below w1.heap.size w1 W → Kd.C (Kd.int .u8) W Aq lq.length lq) := Lib.hid fun W hW => Kd.C_below HCq.out (below_next HB1.out hW)
    have HC1c : Hid (∀ W, Below w1.heap.size w1 W → Kd.C (Kd.int .u8) W Ac lc.length lc) := Lib.hid fun W hW => Kd.C_below HCc.out (below_next HB1.out hW)
    have HBc := Lib.hid hB2
    have HWc : Hid (Below wc.heap.size wc wc) := Lib.hid (Below.refl _ _)
    have H12 := Lib.hid K12
    have H13 := Lib.hid K13
    have H14 := Lib.hid K14
    have H15 := Lib.hid K15
    have HGE : Hid ((w1.heap.size ≤ b12 ∧ w1.heap.size ≤ b13 ∧ w1.heap.size ≤ b14 ∧ w1.heap.size ≤ b15) ∧ b12 < wc.heap.size ∧ b13 < wc.heap.size ∧ b14 < wc.heap.size ∧ b15 < wc.heap.size) := Lib.hid ⟨⟨g12, g13, g14, g15⟩, blk_lt K12, blk_lt K13, blk_lt K14, blk_lt K15⟩
    clear K12 K13 K14 K15 hB2 hw1
    go_wp2_with fail
    go_region_held3 (fun w' => w'.cell? ⟨w.heap.size, 3, none⟩ = some (.slice Ao lo.length co) ∧ w'.cell? ⟨b6, 2, none⟩ = some (.slice Ar lr.length cr) ∧ w'.cell? ⟨b7, 5, none⟩ = some (.slice Aq lq.length cq) ∧ w'.cell? ⟨b8, 4, none⟩ = some (.slice Ac lc.length cc)) ((refine KS.out _ ?_; (repeat (first | (with_reducible exact HBc.out) | (with_reducible exact HB3.out) | (with_reducible exact HB4.out) | (with_reducible exact HB5.out) | (with_reducible exact HB6.out) | (with_reducible refine below_drew ?_) | (with_reducible refine pw_below_drewN ?_ _) | (with_reducible refine Below.setCell ?_ (by first | assumption | omega) _))))) (first | (go_at_call 19; (with_reducible refine (twin_calls Ao co lo _ ?cc ?ll).mono ?_); (case ll => omega); (case cc => refine HC1o.out _ ?_; (repeat (first | (with_reducible exact HBc.out) | (with_reducible refine below_drew ?_) | (with_reducible refine pw_below_drewN ?_ _) | (with_reducible refine Below.setCell ?_ (by first | assumption | omega) _)))); rintro e w3 ⟨t3, rfl, hg, ht, hb⟩; (have HG3 : Hid (wc.heap.size ≤ t3) := Lib.hid (by first | (simp at hg; have := HWc.out.size; omega) | (have := HWc.out.size; simp at *; omega))); (have HT3 : Hid (∀ W, Below w3.heap.size w3 W → Blk W t3 (marked lo)) := Lib.hid fun W hW => ht.move hW); (have HB3 : Hid (Below w1.heap.size w1 w3) := Lib.hid (below_next (by (repeat (first | (with_reducible exact HBc.out) | (with_reducible refine below_drew ?_) | (with_reducible refine pw_below_drewN ?_ _) | (with_reducible refine Below.setCell ?_ (by first | assumption | omega) _)))) hb)); (have HW3 : Hid (Below wc.heap.size wc w3) := Lib.hid (below_next (by (repeat (first | (with_reducible exact HWc.out) | (with_reducible refine below_drew ?_) | (with_reducible refine pw_below_drewN ?_ _)))) hb)); (have HL3 : Hid (Below wc.heap.size wc w3) := Lib.hid (below_next (by (repeat (first | (with_reducible exact Below.refl _ _) | (with_reducible refine below_drew ?_) | (with_reducible refine pw_below_drewN ?_ _)))) hb)); clear ht hb hg) | (go_at_call 19; (with_reducible refine (twin_calls Ar cr lr _ ?cc ?ll).mono ?_); (case ll => omega); (case cc => refine HC1r.out _ ?_; (repeat (first | (with_reducible exact HB3.out) | (with_reducible refine below_drew ?_) | (with_reducible refine pw_below_drewN ?_ _) | (with_reducible refine Below.setCell ?_ (by first | assumption | omega) _)))); rintro e w4 ⟨t4, rfl, hg, ht, hb⟩; (have HG4 : Hid (wc.heap.size ≤ t4) := Lib.hid (by first | (simp at hg; have := HW3.out.size; omega) | (have := HW3.out.size; simp at *; omega))); (have HT4 : Hid (∀ W, Below w4.heap.size w4 W → Blk W t4 (marked lr)) := Lib.hid fun W hW => ht.move hW); (have HB4 : Hid (Below w1.heap.size w1 w4) := Lib.hid (below_next (by (repeat (first | (with_reducible exact HB3.out) | (with_reducible refine below_drew ?_) | (with_reducible refine pw_below_drewN ?_ _) | (with_reducible refine Below.setCell ?_ (by first | assumption | omega) _)))) hb)); (have HW4 : Hid (Below wc.heap.size wc w4) := Lib.hid (below_next (by (repeat (first | (with_reducible exact HW3.out) | (with_reducible refine below_drew ?_) | (with_reducible refine pw_below_drewN ?_ _)))) hb)); (have HL4 : Hid (Below w3.heap.size w3 w4) := Lib.hid (below_next (by (repeat (first | (with_reducible exact Below.refl _ _) | (with_reducible refine below_drew ?_) | (with_reducible refine pw_below_drewN ?_ _)))) hb)); clear ht hb hg) | (go_at_call 19; (with_reducible refine (twin_calls Aq cq lq _ ?cc ?ll).mono ?_); (case ll => omega); (case cc => refine HC1q.out _ ?_; (repeat (first | (with_reducible exact HB4.out) | (with_reducible refine below_drew ?_) | (with_reducible refine pw_below_drewN ?_ _) | (with_reducible refine Below.setCell ?_ (by first | assumption | omega) _)))); rintro e w5 ⟨t5, rfl, hg, ht, hb⟩; (have HG5 : Hid (wc.heap.size ≤ t5) := Lib.hid (by first | (simp at hg; have := HW4.out.size; omega) | (have := HW4.out.size; simp at *; omega))); (have HT5 : Hid (∀ W, Below w5.heap.size w5 W → Blk W t5 (marked lq)) := Lib.hid fun W hW => ht.move hW); (have HB5 : Hid (Below w1.heap.size w1 w5) := Lib.hid (below_next (by (repeat (first | (with_reducible exact HB4.out) | (with_reducible refine below_drew ?_) | (with_reducible refine pw_below_drewN ?_ _) | (with_reducible refine Below.setCell ?_ (by first | assumption | omega) _)))) hb)); (have HW5 : Hid (Below wc.heap.size wc w5) := Lib.hid (below_next (by (repeat (first | (with_reducible exact HW4.out) | (with_reducible refine below_drew ?_) | (with_reducible refine pw_below_drewN ?_ _)))) hb)); (have HL5 : Hid (Below w4.heap.size w4 w5) := Lib.hid (below_next (by (repeat (first | (with_reducible exact Below.refl _ _) | (with_reducible refine below_drew ?_) | (with_reducible refine pw_below_drewN ?_ _)))) hb)); clear ht hb hg) | (go_at_call 19; (with_reducible refine (twin_calls Ac cc lc _ ?cc ?ll).mono ?_); (case ll => omega); (case cc => refine HC1c.out _ ?_; (repeat (first | (with_reducible exact HB5.out) | (with_reducible refine below_drew ?_) | (with_reducible refine pw_below_drewN ?_ _) | (with_reducible refine Below.setCell ?_ (by first | assumption | omega) _)))); rintro e w6 ⟨t6, rfl, hg, ht, hb⟩; (have HG6 : Hid (wc.heap.size ≤ t6) := Lib.hid (by first | (simp at hg; have := HW5.out.size; omega) | (have := HW5.out.size; simp at *; omega))); (have HT6 : Hid (∀ W, Below w6.heap.size w6 W → Blk W t6 (marked lc)) := Lib.hid fun W hW => ht.move hW); (have HB6 : Hid (Below w1.heap.size w1 w6) := Lib.hid (below_next (by (repeat (first | (with_reducible exact HB5.out) | (with_reducible refine below_drew ?_) | (with_reducible refine pw_below_drewN ?_ _) | (with_reducible refine Below.setCell ?_ (by first | assumption | omega) _)))) hb)); (have HW6 : Hid (Below wc.heap.size wc w6) := Lib.hid (below_next (by (repeat (first | (with_reducible exact HW5.out) | (with_reducible refine below_drew ?_) | (with_reducible refine pw_below_drewN ?_ _)))) hb)); (have HL6 : Hid (Below w5.heap.size w5 w6) := Lib.hid (below_next (by (repeat (first | (with_reducible exact Below.refl _ _) | (with_reducible refine below_drew ?_) | (with_reducible refine pw_below_drewN ?_ _)))) hb)); (have z12 := (blk_cell ((HW6.out.block b12 HGE.out.2.1).trans H12.out) 3).trans rfl); (have y12 := blk_frozen ((HW6.out.block b12 HGE.out.2.1).trans H12.out) 3); (have z13 := (blk_cell ((HW6.out.block b13 HGE.out.2.2.1).trans H13.out) 2).trans rfl); (have y13 := blk_frozen ((HW6.out.block b13 HGE.out.2.2.1).trans H13.out) 2); (have z14 := (blk_cell ((HW6.out.block b14 HGE.out.2.2.2.1).trans H14.out) 5).trans rfl); (have y14 := blk_frozen ((HW6.out.block b14 HGE.out.2.2.2.1).trans H14.out) 5); (have z15 := (blk_cell ((HW6.out.block b15 HGE.out.2.2.2.2).trans H15.out) 4).trans rfl); (have y15 := blk_frozen ((HW6.out.block b15 HGE.out.2.2.2.2).trans H15.out) 4); clear ht hb hg))
    obtain ⟨⟨g12, g13, g14, g15⟩, u12, u13, u14, u15⟩ := HGE.out
    have hg3 := HG3.out
    have hg4 := HG4.out
    have hg5 := HG5.out
    have hg6 := HG6.out
    have J12 : Hid ((((((w6).setCell ⟨b12, 3, none⟩ (.slice (some ⟨t3, 0, none⟩) lo.length (lo.length + 4))).setCell ⟨b13, 2, none⟩ (.slice (some ⟨t4, 0, none⟩) lr.length (lr.length + 4))).setCell ⟨b14, 5, none⟩ (.slice (some ⟨t5, 0, none⟩) lq.length (lq.length + 4))).setCell ⟨b15, 4, none⟩ (.slice (some ⟨t6, 0, none⟩) lc.length (lc.length + 4))).heap[b12]? = some (.cells #[.int .u32 o0, .int .u32 o1, .bool o2, .slice (some ⟨t3, 0, none⟩) lo.length (lo.length + 4)] 33 (0, 0))) := Lib.hid (blk_far (blk_far (blk_far (blk_put (cs' := #[.int .u32 o0, .int .u32 o1, .bool o2, .slice (some ⟨t3, 0, none⟩) lo.length (lo.length + 4)]) ((HW6.out.block b12 u12).trans H12.out) 3 _ rfl) (p := ⟨b13, 2, none⟩) (by first | assumption | (apply Ne.symm; assumption)) _) (p := ⟨b14, 5, none⟩) (by first | assumption | (apply Ne.symm; assumption)) _) (p := ⟨b15, 4, none⟩) (by first | assumption | (apply Ne.symm; assumption)) _)
    have J13 : Hid ((((((w6).setCell ⟨b12, 3, none⟩ (.slice (some ⟨t3, 0, none⟩) lo.length (lo.length + 4))).setCell ⟨b13, 2, none⟩ (.slice (some ⟨t4, 0, none⟩) lr.length (lr.length + 4))).setCell ⟨b14, 5, none⟩ (.slice (some ⟨t5, 0, none⟩) lq.length (lq.length + 4))).setCell ⟨b15, 4, none⟩ (.slice (some ⟨t6, 0, none⟩) lc.length (lc.length + 4))).heap[b13]? = some (.cells #[.int .u32 r0, .int .u32 r1, .slice (some ⟨t4, 0, none⟩) lr.length (lr.length + 4)] 35 (0, 0))) := Lib.hid (blk_far (blk_far (blk_put (cs' := #[.int .u32 r0, .int .u32 r1, .slice (some ⟨t4, 0, none⟩) lr.length (lr.length + 4)]) (blk_far ((HW6.out.block b13 u13).trans H13.out) (p := ⟨b12, 3, none⟩) (by first | assumption | (apply Ne.symm; assumption)) _) 2 _ rfl) (p := ⟨b14, 5, none⟩) (by first | assumption | (apply Ne.symm; assumption)) _) (p := ⟨b15, 4, none⟩) (by first | assumption | (apply Ne.symm; assumption)) _)
    have J14 : Hid ((((((w6).setCell ⟨b12, 3, none⟩ (.slice (some ⟨t3, 0, none⟩) lo.length (lo.length + 4))).setCell ⟨b13, 2, none⟩ (.slice (some ⟨t4, 0, none⟩) lr.length (lr.length + 4))).setCell ⟨b14, 5, none⟩ (.slice (some ⟨t5, 0, none⟩) lq.length (lq.length + 4))).setCell ⟨b15, 4, none⟩ (.slice (some ⟨t6, 0, none⟩) lc.length (lc.length + 4))).heap[b14]? = some (.cells #[.int .u16 q0, .int .u16 q1, .int .u64 q2, .int .u64 q3, .int .u64 q4, .slice (some ⟨t5, 0, none⟩) lq.length (lq.length + 4)] 39 (0, 0))) := Lib.hid (blk_far (blk_put (cs' := #[.int .u16 q0, .int .u16 q1, .int .u64 q2, .int .u64 q3, .int .u64 q4, .slice (some ⟨t5, 0, none⟩) lq.length (lq.length + 4)]) (blk_far (blk_far ((HW6.out.block b14 u14).trans H14.out) (p := ⟨b12, 3, none⟩) (by first | assumption | (apply Ne.symm; assumption)) _) (p := ⟨b13, 2, none⟩) (by first | assumption | (apply Ne.symm; assumption)) _) 5 _ rfl) (p := ⟨b15, 4, none⟩) (by first | assumption | (apply Ne.symm; assumption)) _)
    have J15 : Hid ((((((w6).setCell ⟨b12, 3, none⟩ (.slice (some ⟨t3, 0, none⟩) lo.length (lo.length + 4))).setCell ⟨b13, 2, none⟩ (.slice (some ⟨t4, 0, none⟩) lr.length (lr.length + 4))).setCell ⟨b14, 5, none⟩ (.slice (some ⟨t5, 0, none⟩) lq.length (lq.length + 4))).setCell ⟨b15, 4, none⟩ (.slice (some ⟨t6, 0, none⟩) lc.length (lc.length + 4))).heap[b15]? = some (.cells #[.int .u16 c0, .int .u16 c1, .int .u64 c2, .int .u64 c3, .slice (some ⟨t6, 0, none⟩) lc.length (lc.length + 4)] 41 (0, 0))) := Lib.hid (blk_put (cs' := #[.int .u16 c0, .int .u16 c1, .int .u64 c2, .int .u64 c3, .slice (some ⟨t6, 0, none⟩) lc.length (lc.length + 4)]) (blk_far (blk_far (blk_far ((HW6.out.block b15 u15).trans H15.out) (p := ⟨b12, 3, none⟩) (by first | assumption | (apply Ne.symm; assumption)) _) (p := ⟨b13, 2, none⟩) (by first | assumption | (apply Ne.symm; assumption)) _) (p := ⟨b14, 5, none⟩) (by first | assumption | (apply Ne.symm; assumption)) _) 4 _ rfl)
    have T3 : Hid (Blk (((((w6).setCell ⟨b12, 3, none⟩ (.slice (some ⟨t3, 0, none⟩) lo.length (lo.length + 4))).setCell ⟨b13, 2, none⟩ (.slice (some ⟨t4, 0, none⟩) lr.length (lr.length + 4))).setCell ⟨b14, 5, none⟩ (.slice (some ⟨t5, 0, none⟩) lq.length (lq.length + 4))).setCell ⟨b15, 4, none⟩ (.slice (some ⟨t6, 0, none⟩) lc.length (lc.length + 4))) t3 (marked lo)) := Lib.hid (Blk.far (Blk.far (Blk.far (Blk.far (HT3.out _ (below_next HL4.out (below_next HL5.out HL6.out))) (p := ⟨b12, 3, none⟩) (by show t3 ≠ b12; omega) _) (p := ⟨b13, 2, none⟩) (by show t3 ≠ b13; omega) _) (p := ⟨b14, 5, none⟩) (by show t3 ≠ b14; omega) _) (p := ⟨b15, 4, none⟩) (by show t3 ≠ b15; omega) _)
    have T4 : Hid (Blk (((((w6).setCell ⟨b12, 3, none⟩ (.slice (some ⟨t3, 0, none⟩) lo.length (lo.length + 4))).setCell ⟨b13, 2, none⟩ (.slice (some ⟨t4, 0, none⟩) lr.length (lr.length + 4))).setCell ⟨b14, 5, none⟩ (.slice (some ⟨t5, 0, none⟩) lq.length (lq.length + 4))).setCell ⟨b15, 4, none⟩ (.slice (some ⟨t6, 0, none⟩) lc.length (lc.length + 4))) t4 (marked lr)) := Lib.hid (Blk.far (Blk.far (Blk.far (Blk.far (HT4.out _ (below_next HL5.out HL6.out)) (p := ⟨b12, 3, none⟩) (by show t4 ≠ b12; omega) _) (p := ⟨b13, 2, none⟩) (by show t4 ≠ b13; omega) _) (p := ⟨b14, 5, none⟩) (by show t4 ≠ b14; omega) _) (p := ⟨b15, 4, none⟩) (by show t4 ≠ b15; omega) _)
    have T5 : Hid (Blk (((((w6).setCell ⟨b12, 3, none⟩ (.slice (some ⟨t3, 0, none⟩) lo.length (lo.length + 4))).setCell ⟨b13, 2, none⟩ (.slice (some ⟨t4, 0, none⟩) lr.length (lr.length + 4))).setCell ⟨b14, 5, none⟩ (.slice (some ⟨t5, 0, none⟩) lq.length (lq.length + 4))).setCell ⟨b15, 4, none⟩ (.slice (some ⟨t6, 0, none⟩) lc.length (lc.length + 4))) t5 (marked lq)) := Lib.hid (Blk.far (Blk.far (Blk.far (Blk.far (HT5.out _ (HL6.out)) (p := ⟨b12, 3, none⟩) (by show t5 ≠ b12; omega) _) (p := ⟨b13, 2, none⟩) (by show t5 ≠ b13; omega) _) (p := ⟨b14, 5, none⟩) (by show t5 ≠ b14; omega) _) (p := ⟨b15, 4, none⟩) (by show t5 ≠ b15; omega) _)
    have T6 : Hid (Blk (((((w6).setCell ⟨b12, 3, none⟩ (.slice (some ⟨t3, 0, none⟩) lo.length (lo.length + 4))).setCell ⟨b13, 2, none⟩ (.slice (some ⟨t4, 0, none⟩) lr.length (lr.length + 4))).setCell ⟨b14, 5, none⟩ (.slice (some ⟨t5, 0, none⟩) lq.length (lq.length + 4))).setCell ⟨b15, 4, none⟩ (.slice (some ⟨t6, 0, none⟩) lc.length (lc.length + 4))) t6 (marked lc)) := Lib.hid (Blk.far (Blk.far (Blk.far (Blk.far (HT6.out _ (Below.refl _ _)) (p := ⟨b12, 3, none⟩) (by show t6 ≠ b12; omega) _) (p := ⟨b13, 2, none⟩) (by show t6 ≠ b13; omega) _) (p := ⟨b14, 5, none⟩) (by show t6 ≠ b14; omega) _) (p := ⟨b15, 4, none⟩) (by show t6 ≠ b15; omega) _)
    have HB7 : Hid (Below w1.heap.size w1 (((((w6).setCell ⟨b12, 3, none⟩ (.slice (some ⟨t3, 0, none⟩) lo.length (lo.length + 4))).setCell ⟨b13, 2, none⟩ (.slice (some ⟨t4, 0, none⟩) lr.length (lr.length + 4))).setCell ⟨b14, 5, none⟩ (.slice (some ⟨t5, 0, none⟩) lq.length (lq.length + 4))).setCell ⟨b15, 4, none⟩ (.slice (some ⟨t6, 0, none⟩) lc.length (lc.length + 4)))) := Lib.hid (by (repeat (first | (with_reducible exact HB6.out) | (with_reducible refine below_drew ?_) | (with_reducible refine pw_below_drewN ?_ _) | (with_reducible refine Below.setCell ?_ (by first | assumption | omega) _))))
    generalize hw7 : World.setCell (World.setCell (World.setCell (World.setCell w6 _ _) _ _) _ _) _ _ = w7
    rw [hw7] at J12 J13 J14 J15 T3 T4 T5 T6 HB7
    clear hw7
    clear HG3 HG4 HG5 HG6 HT3 HT4 HT5 HT6 HB3 HB4 HB5 HB6 HW3 HW4 HW5 HW6 HL3 HL4 HL5 HL6 H12 H13 H14 H15 hg3 hg4 hg5 hg6 g12 g13 g14 g15 u12 u13 u14 u15 d1 d2 d3 d4 d5 d6 HBc HWc HGE z12 z13 z14 z15 y12 y13 y14 y15
    have HXo : Hid (∀ W, Below w7.heap.size w7 W → Kd.C (Kd.int .u8) W (some ⟨t3, 0, none⟩) lo.length lo) := Lib.hid fun W hW => by
      have h1 := Kd.C_take ((T3.out.move hW).C (by rw [marked_length]; omega)) (m := lo.length) (by rw [marked_length]; omega)
      rwa [show (marked lo).take lo.length = lo from by unfold marked; exact List.take_left' rfl] at h1
    have HXr : Hid (∀ W, Below w7.heap.size w7 W → Kd.C (Kd.int .u8) W (some ⟨t4, 0, none⟩) lr.length lr) := Lib.hid fun W hW => by
      have h1 := Kd.C_take ((T4.out.move hW).C (by rw [marked_length]; omega)) (m := lr.length) (by rw [marked_length]; omega)
      rwa [show (marked lr).take lr.length = lr from by unfold marked; exact List.take_left' rfl] at h1
    have HXq : Hid (∀ W, Below w7.heap.size w7 W → Kd.C (Kd.int .u8) W (some ⟨t5, 0, none⟩) lq.length lq) := Lib.hid fun W hW => by
      have h1 := Kd.C_take ((T5.out.move hW).C (by rw [marked_length]; omega)) (m := lq.length) (by rw [marked_length]; omega)
      rwa [show (marked lq).take lq.length = lq from by unfold marked; exact List.take_left' rfl] at h1
    have HXc : Hid (∀ W, Below w7.heap.size w7 W → Kd.C (Kd.int .u8) W (some ⟨t6, 0, none⟩) lc.length lc) := Lib.hid fun W hW => by
      have h1 := Kd.C_take ((T6.out.move hW).C (by rw [marked_length]; omega)) (m := lc.length) (by rw [marked_length]; omega)
      rwa [show (marked lc).take lc.length = lc from by unfold marked; exact List.take_left' rfl] at h1
    have HPo : Hid (∀ W, Below w7.heap.size w7 W → Kd.C (Kd.int .u8) W Ao lo.length lo) := Lib.hid fun W hW => HC1o.out W (below_next HB7.out hW)
    have HPr : Hid (∀ W, Below w7.heap.size w7 W → Kd.C (Kd.int .u8) W Ar lr.length lr) := Lib.hid fun W hW => HC1r.out W (below_next HB7.out hW)
    have HPq : Hid (∀ W, Below w7.heap.size w7 W → Kd.C (Kd.int .u8) W Aq lq.length lq) := Lib.hid fun W hW => HC1q.out W (below_next HB7.out hW)
    have HPc : Hid (∀ W, Below w7.heap.size w7 W → Kd.C (Kd.int .u8) W Ac lc.length lc) := Lib.hid fun W hW => HC1c.out W (below_next HB7.out hW)
    have HM7 : Hid (Below w7.heap.size w7 w7) := Lib.hid (Below.refl _ _)
    obtain ⟨eo, no, hEo, hzo⟩ := some_enco o0 o1 o2 lo ho0 ho1 hlo
    have HEo := Lib.hid hEo
    clear hEo
    obtain ⟨er, hEr, hzr⟩ := some_encr r0 r1 lr hr0 hr1 hlr
    have HEr := Lib.hid hEr
    clear hEr
    obtain ⟨eq, nq, hEq, hzq⟩ := some_encq q0 q1 q2 q3 q4 lq x hq0 hq1 hq2 hq3 hq4 hlq
    have HEq := Lib.hid hEq
    clear hEq
    obtain ⟨ec, hEc, hzc⟩ := some_encc c0 c1 c2 c3 lc x hc0 hc1 hc2 hc3 hlc
    have HEc := Lib.hid hEc
    clear hEc
    have jpo := (HM7.out.block b12 (blk_lt J12.out)).trans J12.out
    have fpo0 : w7.cell? ⟨b12, 0, none⟩ = some (.int .u32 o0) := (blk_cell jpo 0).trans rfl
    have fpo1 : w7.cell? ⟨b12, 1, none⟩ = some (.int .u32 o1) := (blk_cell jpo 1).trans rfl
    have fpo2 : w7.cell? ⟨b12, 2, none⟩ = some (.bool o2) := (blk_cell jpo 2).trans rfl
    have fpo3 : w7.cell? ⟨b12, 3, none⟩ = some (.slice (some ⟨t3, 0, none⟩) lo.length (lo.length + 4)) := (blk_cell jpo 3).trans rfl
    clear jpo
    go_wp2_with fail
    refine (wire_EncodeOption.calls o0 o1 o2 (some ⟨t3, 0, none⟩) (lo.length + 4) lo eo no _ (HXo.out _ (by repeat (first | (with_reducible exact HM7.out) | (with_reducible refine below_drew ?_) | (with_reducible refine pw_below_drewN ?_ _)))) (by omega) HEo.out).mono ?_
    rintro e w8 ⟨vo, rfl, hR, hb⟩
    obtain ⟨Bpo, kpo, rfl, hkpo, hq⟩ := C_of_R hR
    have HQpo : Hid (∀ W, Below w8.heap.size w8 W → Kd.C (Kd.int .u8) W Bpo eo.length eo) := Lib.hid fun W hW => Kd.C_below hq hW
    clear hq hR
    have HM8 : Hid (Below w7.heap.size w7 w8) := Lib.hid (below_next (by repeat (first | (with_reducible exact HM7.out) | (with_reducible refine below_drew ?_) | (with_reducible refine pw_below_drewN ?_ _))) hb)
    have HL8 : Hid (Below w7.heap.size w7 w8) := Lib.hid (below_next (by repeat (first | (with_reducible exact Below.refl _ _) | (with_reducible refine below_drew ?_) | (with_reducible refine pw_below_drewN ?_ _))) hb)
    clear hb fpo0 fpo1 fpo2 fpo3
    have jpr := (HM8.out.block b13 (blk_lt J13.out)).trans J13.out
    have fpr0 : w8.cell? ⟨b13, 0, none⟩ = some (.int .u32 r0) := (blk_cell jpr 0).trans rfl
    have fpr1 : w8.cell? ⟨b13, 1, none⟩ = some (.int .u32 r1) := (blk_cell jpr 1).trans rfl
    have fpr2 : w8.cell? ⟨b13, 2, none⟩ = some (.slice (some ⟨t4, 0, none⟩) lr.length (lr.length + 4)) := (blk_cell jpr 2).trans rfl
    clear jpr
    go_wp2_with fail
    refine (wire_EncodeReply.calls r0 r1 (some ⟨t4, 0, none⟩) (lr.length + 4) lr er  _ (HXr.out _ (by repeat (first | (with_reducible exact HM8.out) | (with_reducible refine below_drew ?_) | (with_reducible refine pw_below_drewN ?_ _)))) (by omega) HEr.out).mono ?_
    rintro e w9 ⟨vr, rfl, hR, hb⟩
    obtain ⟨Bpr, kpr, rfl, hkpr, hq⟩ := C_of_R hR
    have HQpr : Hid (∀ W, Below w9.heap.size w9 W → Kd.C (Kd.int .u8) W Bpr er.length er) := Lib.hid fun W hW => Kd.C_below hq hW
    clear hq hR
    have HM9 : Hid (Below w7.heap.size w7 w9) := Lib.hid (below_next (by repeat (first | (with_reducible exact HM8.out) | (with_reducible refine below_drew ?_) | (with_reducible refine pw_below_drewN ?_ _))) hb)
    have HL9 : Hid (Below w8.heap.size w8 w9) := Lib.hid (below_next (by repeat (first | (with_reducible exact Below.refl _ _) | (with_reducible refine below_drew ?_) | (with_reducible refine pw_below_drewN ?_ _))) hb)
    clear hb fpr0 fpr1 fpr2
    have jpq := (HM9.out.block b14 (blk_lt J14.out)).trans J14.out
    have fpq0 : w9.cell? ⟨b14, 0, none⟩ = some (.int .u16 q0) := (blk_cell jpq 0).trans rfl
    have fpq1 : w9.cell? ⟨b14, 1, none⟩ = some (.int .u16 q1) := (blk_cell jpq 1).trans rfl
    have fpq2 : w9.cell? ⟨b14, 2, none⟩ = some (.int .u64 q2) := (blk_cell jpq 2).trans rfl
    have fpq3 : w9.cell? ⟨b14, 3, none⟩ = some (.int .u64 q3) := (blk_cell jpq 3).trans rfl
    have fpq4 : w9.cell? ⟨b14, 4, none⟩ = some (.int .u64 q4) := (blk_cell jpq 4).trans rfl
    have fpq5 : w9.cell? ⟨b14, 5, none⟩ = some (.slice (some ⟨t5, 0, none⟩) lq.length (lq.length + 4)) := (blk_cell jpq 5).trans rfl
    clear jpq
    go_wp2_with fail
    refine (wire_EncodeRequest.calls q0 q1 q2 q3 q4 (some ⟨t5, 0, none⟩) (lq.length + 4) lq x eq nq _ (HXq.out _ (by repeat (first | (with_reducible exact HM9.out) | (with_reducible refine below_drew ?_) | (with_reducible refine pw_below_drewN ?_ _)))) (by omega) HEq.out).mono ?_
    rintro e w10 ⟨vq, rfl, hR, hb⟩
    obtain ⟨Bpq, kpq, rfl, hkpq, hq⟩ := C_of_R hR
    have HQpq : Hid (∀ W, Below w10.heap.size w10 W → Kd.C (Kd.int .u8) W Bpq eq.length eq) := Lib.hid fun W hW => Kd.C_below hq hW
    clear hq hR
    have HM10 : Hid (Below w7.heap.size w7 w10) := Lib.hid (below_next (by repeat (first | (with_reducible exact HM9.out) | (with_reducible refine below_drew ?_) | (with_reducible refine pw_below_drewN ?_ _))) hb)
    have HL10 : Hid (Below w9.heap.size w9 w10) := Lib.hid (below_next (by repeat (first | (with_reducible exact Below.refl _ _) | (with_reducible refine below_drew ?_) | (with_reducible refine pw_below_drewN ?_ _))) hb)
    clear hb fpq0 fpq1 fpq2 fpq3 fpq4 fpq5
    have jpc := (HM10.out.block b15 (blk_lt J15.out)).trans J15.out
    have fpc0 : w10.cell? ⟨b15, 0, none⟩ = some (.int .u16 c0) := (blk_cell jpc 0).trans rfl
    have fpc1 : w10.cell? ⟨b15, 1, none⟩ = some (.int .u16 c1) := (blk_cell jpc 1).trans rfl
    have fpc2 : w10.cell? ⟨b15, 2, none⟩ = some (.int .u64 c2) := (blk_cell jpc 2).trans rfl
    have fpc3 : w10.cell? ⟨b15, 3, none⟩ = some (.int .u64 c3) := (blk_cell jpc 3).trans rfl
    have fpc4 : w10.cell? ⟨b15, 4, none⟩ = some (.slice (some ⟨t6, 0, none⟩) lc.length (lc.length + 4)) := (blk_cell jpc 4).trans rfl
    clear jpc
    go_wp2_with fail
    refine (wire_EncodeChunk.calls c0 c1 c2 c3 (some ⟨t6, 0, none⟩) (lc.length + 4) lc x ec  _ (HXc.out _ (by repeat (first | (with_reducible exact HM10.out) | (with_reducible refine below_drew ?_) | (with_reducible refine pw_below_drewN ?_ _)))) (by omega) HEc.out).mono ?_
    rintro e w11 ⟨vc, rfl, hR, hb⟩
    obtain ⟨Bpc, kpc, rfl, hkpc, hq⟩ := C_of_R hR
    have HQpc : Hid (∀ W, Below w11.heap.size w11 W → Kd.C (Kd.int .u8) W Bpc ec.length ec) := Lib.hid fun W hW => Kd.C_below hq hW
    clear hq hR
    have HM11 : Hid (Below w7.heap.size w7 w11) := Lib.hid (below_next (by repeat (first | (with_reducible exact HM10.out) | (with_reducible refine below_drew ?_) | (with_reducible refine pw_below_drewN ?_ _))) hb)
    have HL11 : Hid (Below w10.heap.size w10 w11) := Lib.hid (below_next (by repeat (first | (with_reducible exact Below.refl _ _) | (with_reducible refine below_drew ?_) | (with_reducible refine pw_below_drewN ?_ _))) hb)
    clear hb fpc0 fpc1 fpc2 fpc3 fpc4
    obtain ⟨fdo0, fdo1, fdo2, fdo3, -, -, -, -, -, -, -, -, -, -, -, -, -, -⟩ := KF.out w11 (below_next HB7.out HM11.out)
    go_wp2_with fail
    refine (spindleref08_Option.calls 40 o0 o1 o2 Ao co lo eo no _ (HPo.out _ (by repeat (first | (with_reducible exact HM11.out) | (with_reducible refine below_drew ?_) | (with_reducible refine pw_below_drewN ?_ _)))) hco (by rw [enc_option o0 o1 o2 lo ho0 ho1 hlo 40 (by decide), HEo.out])).mono ?_
    rintro e w12 ⟨vo, rfl, hR, hb⟩
    obtain ⟨Bdo, kdo, rfl, hkdo, hq⟩ := C_of_R hR
    have HQdo : Hid (∀ W, Below w12.heap.size w12 W → Kd.C (Kd.int .u8) W Bdo eo.length eo) := Lib.hid fun W hW => Kd.C_below hq hW
    clear hq hR
    have HM12 : Hid (Below w7.heap.size w7 w12) := Lib.hid (below_next (by repeat (first | (with_reducible exact HM11.out) | (with_reducible refine below_drew ?_) | (with_reducible refine pw_below_drewN ?_ _))) hb)
    have HL12 : Hid (Below w11.heap.size w11 w12) := Lib.hid (below_next (by repeat (first | (with_reducible exact Below.refl _ _) | (with_reducible refine below_drew ?_) | (with_reducible refine pw_below_drewN ?_ _))) hb)
    clear hb
    clear fdo0 fdo1 fdo2 fdo3
    obtain ⟨-, -, -, -, -, -, -, fdq0, fdq1, fdq2, fdq3, fdq4, fdq5, -, -, -, -, -⟩ := KF.out w12 (below_next HB7.out HM12.out)
    go_wp2_with fail
    refine (spindleref08_Request.calls 40 q0 q1 q2 q3 q4 Aq cq lq x eq nq _ (HPq.out _ (by repeat (first | (with_reducible exact HM12.out) | (with_reducible refine below_drew ?_) | (with_reducible refine pw_below_drewN ?_ _)))) hcq (by rw [enc_request q0 q1 q2 q3 q4 lq x hq0 hq1 hq4 hlq 40 (by decide), HEq.out])).mono ?_
    rintro e w13 ⟨vq, rfl, hR, hb⟩
    obtain ⟨Bdq, kdq, rfl, hkdq, hq⟩ := C_of_R hR
    have HQdq : Hid (∀ W, Below w13.heap.size w13 W → Kd.C (Kd.int .u8) W Bdq eq.length eq) := Lib.hid fun W hW => Kd.C_below hq hW
    clear hq hR
    have HM13 : Hid (Below w7.heap.size w7 w13) := Lib.hid (below_next (by repeat (first | (with_reducible exact HM12.out) | (with_reducible refine below_drew ?_) | (with_reducible refine pw_below_drewN ?_ _))) hb)
    have HL13 : Hid (Below w12.heap.size w12 w13) := Lib.hid (below_next (by repeat (first | (with_reducible exact Below.refl _ _) | (with_reducible refine below_drew ?_) | (with_reducible refine pw_below_drewN ?_ _))) hb)
    clear hb
    clear fdq0 fdq1 fdq2 fdq3 fdq4 fdq5
    have xno : (no != no) = false := by simp
    have xnq : (nq != nq) = false := by simp
    obtain ⟨-, -, -, -, fdr0, fdr1, fdr2, -, -, -, -, -, -, -, -, -, -, -⟩ := KF.out w13 (below_next HB7.out HM13.out)
    go_wp2_with fail
    refine (spindlelaw08_num.calls no no _ rfl).mono ?_
    rintro e w' ⟨rfl, ⟨nd, rfl⟩⟩
    go_wp2_with fail
    refine (spindlelaw08_num.calls nq nq _ rfl).mono ?_
    rintro e w' ⟨rfl, ⟨nd, rfl⟩⟩
    go_wp2_with fail
    refine (spindlelaw08_same.calls (eo.length + 1) Bpo kpo eo Bdo kdo eo true _ (HQpo.out _ (below_next HL9.out (below_next HL10.out (below_next HL11.out (below_next HL12.out (below_next HL13.out ((by repeat (first | (with_reducible exact Below.refl _ _) | (with_reducible refine below_drew ?_) | (with_reducible refine pw_below_drewN ?_ _)))))))))) hkpo (HQdo.out _ (below_next HL13.out ((by repeat (first | (with_reducible exact Below.refl _ _) | (with_reducible refine below_drew ?_) | (with_reducible refine pw_below_drewN ?_ _)))))) hkdo (same_is eo (by omega) _ (by omega))).mono ?_
    rintro e w' ⟨rfl, ⟨nd, rfl⟩⟩
    go_wp2_with fail
    refine (spindlelaw08_same.calls (eq.length + 1) Bpq kpq eq Bdq kdq eq true _ (HQpq.out _ (below_next HL11.out (below_next HL12.out (below_next HL13.out ((by repeat (first | (with_reducible exact Below.refl _ _) | (with_reducible refine below_drew ?_) | (with_reducible refine pw_below_drewN ?_ _)))))))) hkpq (HQdq.out _ ((by repeat (first | (with_reducible exact Below.refl _ _) | (with_reducible refine below_drew ?_) | (with_reducible refine pw_below_drewN ?_ _))))) hkdq (same_is eq (by omega) _ (by omega))).mono ?_
    rintro e w' ⟨rfl, ⟨nd, rfl⟩⟩
    go_wp2_with fail
    refine (spindleref08_Reply.calls 40 r0 r1 Ar cr lr er  _ (HPr.out _ (by repeat (first | (with_reducible exact HM13.out) | (with_reducible refine below_drew ?_) | (with_reducible refine pw_below_drewN ?_ _)))) hcr (by rw [enc_reply r0 r1 lr hr0 hr1 hlr 40 (by decide), HEr.out])).mono ?_
    rintro e w14 ⟨vr, rfl, hR, hb⟩
    obtain ⟨Bdr, kdr, rfl, hkdr, hq⟩ := C_of_R hR
    have HQdr : Hid (∀ W, Below w14.heap.size w14 W → Kd.C (Kd.int .u8) W Bdr er.length er) := Lib.hid fun W hW => Kd.C_below hq hW
    clear hq hR
    have HM14 : Hid (Below w7.heap.size w7 w14) := Lib.hid (below_next (by repeat (first | (with_reducible exact HM13.out) | (with_reducible refine below_drew ?_) | (with_reducible refine pw_below_drewN ?_ _))) hb)
    have HL14 : Hid (Below w13.heap.size w13 w14) := Lib.hid (below_next (by repeat (first | (with_reducible exact Below.refl _ _) | (with_reducible refine below_drew ?_) | (with_reducible refine pw_below_drewN ?_ _))) hb)
    clear hb
    clear fdr0 fdr1 fdr2
    go_wp2_with fail
    obtain ⟨-, -, -, -, -, -, -, -, -, -, -, -, -, fdc0, fdc1, fdc2, fdc3, fdc4⟩ := KF.out w14 (below_next HB7.out HM14.out)
    refine (spindlelaw08_same.calls (er.length + 1) Bpr kpr er Bdr kdr er true _ (HQpr.out _ (below_next HL10.out (below_next HL11.out (below_next HL12.out (below_next HL13.out (below_next HL14.out ((by repeat (first | (with_reducible exact Below.refl _ _) | (with_reducible refine below_drew ?_) | (with_reducible refine pw_below_drewN ?_ _)))))))))) hkpr (HQdr.out _ ((by repeat (first | (with_reducible exact Below.refl _ _) | (with_reducible refine below_drew ?_) | (with_reducible refine pw_below_drewN ?_ _))))) hkdr (same_is er (by omega) _ (by omega))).mono ?_
    rintro e w' ⟨rfl, ⟨nd, rfl⟩⟩
    go_wp2_with fail
    refine (spindleref08_Chunk.calls 40 c0 c1 c2 c3 Ac cc lc x ec  _ (HPc.out _ (by repeat (first | (with_reducible exact HM14.out) | (with_reducible refine below_drew ?_) | (with_reducible refine pw_below_drewN ?_ _)))) hcc (by rw [enc_chunk c0 c1 c2 c3 lc x hc0 hc1 hlc 40 (by decide), HEc.out])).mono ?_
    rintro e w15 ⟨vc, rfl, hR, hb⟩
    obtain ⟨Bdc, kdc, rfl, hkdc, hq⟩ := C_of_R hR
    have HQdc : Hid (∀ W, Below w15.heap.size w15 W → Kd.C (Kd.int .u8) W Bdc ec.length ec) := Lib.hid fun W hW => Kd.C_below hq hW
    clear hq hR
    have HM15 : Hid (Below w7.heap.size w7 w15) := Lib.hid (below_next (by repeat (first | (with_reducible exact HM14.out) | (with_reducible refine below_drew ?_) | (with_reducible refine pw_below_drewN ?_ _))) hb)
    have HL15 : Hid (Below w14.heap.size w14 w15) := Lib.hid (below_next (by repeat (first | (with_reducible exact Below.refl _ _) | (with_reducible refine below_drew ?_) | (with_reducible refine pw_below_drewN ?_ _))) hb)
    clear hb
    clear fdc0 fdc1 fdc2 fdc3 fdc4
    go_wp2_with fail
    refine (spindlelaw08_same.calls (ec.length + 1) Bpc kpc ec Bdc kdc ec true _ (HQpc.out _ (below_next HL12.out (below_next HL13.out (below_next HL14.out (below_next HL15.out ((by repeat (first | (with_reducible exact Below.refl _ _) | (with_reducible refine below_drew ?_) | (with_reducible refine pw_below_drewN ?_ _))))))))) hkpc (HQdc.out _ ((by repeat (first | (with_reducible exact Below.refl _ _) | (with_reducible refine below_drew ?_) | (with_reducible refine pw_below_drewN ?_ _))))) hkdc (same_is ec (by omega) _ (by omega))).mono ?_
    rintro e w' ⟨rfl, ⟨nd, rfl⟩⟩
    have jD := (HM15.out.block bD (blk_lt ((HB7.out.block bD (blk_lt KD.out)).trans KD.out))).trans ((HB7.out.block bD (blk_lt KD.out)).trans KD.out)
    have fD0 : w15.cell? ⟨bD, 0, none⟩ = some (.slice Ao lo.length co) := (blk_cell jD 0).trans rfl
    have fD1 : w15.cell? ⟨bD, 1, none⟩ = some (.slice Ar lr.length cr) := (blk_cell jD 1).trans rfl
    have fD2 : w15.cell? ⟨bD, 2, none⟩ = some (.slice Aq lq.length cq) := (blk_cell jD 2).trans rfl
    have fD3 : w15.cell? ⟨bD, 3, none⟩ = some (.slice Ac lc.length cc) := (blk_cell jD 3).trans rfl
    have jko := (HM15.out.block b12 (blk_lt J12.out)).trans J12.out
    have fko : w15.cell? ⟨b12, 3, none⟩ = some (.slice (some ⟨t3, 0, none⟩) lo.length (lo.length + 4)) := (blk_cell jko 3).trans rfl
    have jkr := (HM15.out.block b13 (blk_lt J13.out)).trans J13.out
    have fkr : w15.cell? ⟨b13, 2, none⟩ = some (.slice (some ⟨t4, 0, none⟩) lr.length (lr.length + 4)) := (blk_cell jkr 2).trans rfl
    have jkq := (HM15.out.block b14 (blk_lt J14.out)).trans J14.out
    have fkq : w15.cell? ⟨b14, 5, none⟩ = some (.slice (some ⟨t5, 0, none⟩) lq.length (lq.length + 4)) := (blk_cell jkq 5).trans rfl
    have jkc := (HM15.out.block b15 (blk_lt J15.out)).trans J15.out
    have fkc : w15.cell? ⟨b15, 4, none⟩ = some (.slice (some ⟨t6, 0, none⟩) lc.length (lc.length + 4)) := (blk_cell jkc 4).trans rfl
    clear jD jko jkr jkq jkc
    go_wp2_with fail
    refine (kept_calls t3 Ao co lo _ (T3.out.move (by repeat (first | (with_reducible exact HM15.out) | (with_reducible refine below_drew ?_) | (with_reducible refine pw_below_drewN ?_ _)))) (HPo.out _ (by repeat (first | (with_reducible exact HM15.out) | (with_reducible refine below_drew ?_) | (with_reducible refine pw_below_drewN ?_ _)))) (by omega)).mono ?_
    rintro e w' ⟨rfl, nk, rfl⟩
    go_wp2_with fail
    refine (kept_calls t4 Ar cr lr _ (T4.out.move (by repeat (first | (with_reducible exact HM15.out) | (with_reducible refine below_drew ?_) | (with_reducible refine pw_below_drewN ?_ _)))) (HPr.out _ (by repeat (first | (with_reducible exact HM15.out) | (with_reducible refine below_drew ?_) | (with_reducible refine pw_below_drewN ?_ _)))) (by omega)).mono ?_
    rintro e w' ⟨rfl, nk, rfl⟩
    go_wp2_with fail
    refine (kept_calls t5 Aq cq lq _ (T5.out.move (by repeat (first | (with_reducible exact HM15.out) | (with_reducible refine below_drew ?_) | (with_reducible refine pw_below_drewN ?_ _)))) (HPq.out _ (by repeat (first | (with_reducible exact HM15.out) | (with_reducible refine below_drew ?_) | (with_reducible refine pw_below_drewN ?_ _)))) (by omega)).mono ?_
    rintro e w' ⟨rfl, nk, rfl⟩
    go_wp2_with fail
    refine (kept_calls t6 Ac cc lc _ (T6.out.move (by repeat (first | (with_reducible exact HM15.out) | (with_reducible refine below_drew ?_) | (with_reducible refine pw_below_drewN ?_ _)))) (HPc.out _ (by repeat (first | (with_reducible exact HM15.out) | (with_reducible refine below_drew ?_) | (with_reducible refine pw_below_drewN ?_ _)))) (by omega)).mono ?_
    rintro e w' ⟨rfl, nk, rfl⟩
    go_wp2_with fail
    refine (spindlelaw08_alive.calls 40 true _ (alive_ge 40 (by decide))).mono ?_
    rintro e w99 ⟨rfl, hb⟩
    have HM99 : Hid (Below w7.heap.size w7 w99) := Lib.hid (below_next (by repeat (first | (with_reducible exact HM15.out) | (with_reducible refine below_drew ?_) | (with_reducible refine pw_below_drewN ?_ _))) hb)
    clear hb
    go_wp2_with fail
    go_ret
    exact ⟨rfl, below_next HB1.out (below_next HB7.out HM99.out)⟩
end Go.Proofs.Ytilgfhiomcfmhaa.PureE
