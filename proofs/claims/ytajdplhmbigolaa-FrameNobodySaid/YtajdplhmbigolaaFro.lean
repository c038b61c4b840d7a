/- FrameNobody, walked: what every call says of an inbox that no call made. -/
import Derived.Test.YtajdplhmbigolaaFrn
import Derived.Test.YtajdplhmbigolaaFrg
namespace Go.Proofs.Ytajdplhmbigolaa.Fra
open Go.RowKit Go.Proofs.YtajdplhmbigolaaW.PrintWords Go.Proofs.YtajdplhmbigolaaW.PrintLast Go.Proofs.Ytajdplhmbigolaa.Octa Go.Proofs.Ytajdplhmbigolaa.Hand
set_option linter.unusedVariables false
set_option linter.unusedSimpArgs false

theorem blk_set10 {w : World} {b t : Nat} {x0 x1 x2 x3 x4 x5 x6 x7 x8 x9 y0 y1 y2 y3 y4 y5 y6 y7 y8 y9 : Value} (h : w.heap[b]? = some (.cells #[y0, y1, y2, y3, y4, y5, y6, y7, y8, y9] t (0, 0))) : ((((((((((w.setCell ⟨b, 0, none⟩ x0).setCell ⟨b, 1, none⟩ x1).setCell ⟨b, 2, none⟩ x2).setCell ⟨b, 3, none⟩ x3).setCell ⟨b, 4, none⟩ x4).setCell ⟨b, 5, none⟩ x5).setCell ⟨b, 6, none⟩ x6).setCell ⟨b, 7, none⟩ x7).setCell ⟨b, 8, none⟩ x8).setCell ⟨b, 9, none⟩ x9).heap[b]? = some (.cells #[x0, x1, x2, x3, x4, x5, x6, x7, x8, x9] t (0, 0)) := by
  have h0 : (w.setCell ⟨b, 0, none⟩ x0).heap[b]? = some (.cells #[x0, y1, y2, y3, y4, y5, y6, y7, y8, y9] t (0, 0)) := (blk_set h 0 x0).trans rfl
  have h1 : ((w.setCell ⟨b, 0, none⟩ x0).setCell ⟨b, 1, none⟩ x1).heap[b]? = some (.cells #[x0, x1, y2, y3, y4, y5, y6, y7, y8, y9] t (0, 0)) := (blk_set h0 1 x1).trans rfl
  have h2 : (((w.setCell ⟨b, 0, none⟩ x0).setCell ⟨b, 1, none⟩ x1).setCell ⟨b, 2, none⟩ x2).heap[b]? = some (.cells #[x0, x1, x2, y3, y4, y5, y6, y7, y8, y9] t (0, 0)) := (blk_set h1 2 x2).trans rfl
  have h3 : ((((w.setCell ⟨b, 0, none⟩ x0).setCell ⟨b, 1, none⟩ x1).setCell ⟨b, 2, none⟩ x2).setCell ⟨b, 3, none⟩ x3).heap[b]? = some (.cells #[x0, x1, x2, x3, y4, y5, y6, y7, y8, y9] t (0, 0)) := (blk_set h2 3 x3).trans rfl
  have h4 : (((((w.setCell ⟨b, 0, none⟩ x0).setCell ⟨b, 1, none⟩ x1).setCell ⟨b, 2, none⟩ x2).setCell ⟨b, 3, none⟩ x3).setCell ⟨b, 4, none⟩ x4).heap[b]? = some (.cells #[x0, x1, x2, x3, x4, y5, y6, y7, y8, y9] t (0, 0)) := (blk_set h3 4 x4).trans rfl
  have h5 : ((((((w.setCell ⟨b, 0, none⟩ x0).setCell ⟨b, 1, none⟩ x1).setCell ⟨b, 2, none⟩ x2).setCell ⟨b, 3, none⟩ x3).setCell ⟨b, 4, none⟩ x4).setCell ⟨b, 5, none⟩ x5).heap[b]? = some (.cells #[x0, x1, x2, x3, x4, x5, y6, y7, y8, y9] t (0, 0)) := (blk_set h4 5 x5).trans rfl
  have h6 : (((((((w.setCell ⟨b, 0, none⟩ x0).setCell ⟨b, 1, none⟩ x1).setCell ⟨b, 2, none⟩ x2).setCell ⟨b, 3, none⟩ x3).setCell ⟨b, 4, none⟩ x4).setCell ⟨b, 5, none⟩ x5).setCell ⟨b, 6, none⟩ x6).heap[b]? = some (.cells #[x0, x1, x2, x3, x4, x5, x6, y7, y8, y9] t (0, 0)) := (blk_set h5 6 x6).trans rfl
  have h7 : ((((((((w.setCell ⟨b, 0, none⟩ x0).setCell ⟨b, 1, none⟩ x1).setCell ⟨b, 2, none⟩ x2).setCell ⟨b, 3, none⟩ x3).setCell ⟨b, 4, none⟩ x4).setCell ⟨b, 5, none⟩ x5).setCell ⟨b, 6, none⟩ x6).setCell ⟨b, 7, none⟩ x7).heap[b]? = some (.cells #[x0, x1, x2, x3, x4, x5, x6, x7, y8, y9] t (0, 0)) := (blk_set h6 7 x7).trans rfl
  have h8 : (((((((((w.setCell ⟨b, 0, none⟩ x0).setCell ⟨b, 1, none⟩ x1).setCell ⟨b, 2, none⟩ x2).setCell ⟨b, 3, none⟩ x3).setCell ⟨b, 4, none⟩ x4).setCell ⟨b, 5, none⟩ x5).setCell ⟨b, 6, none⟩ x6).setCell ⟨b, 7, none⟩ x7).setCell ⟨b, 8, none⟩ x8).heap[b]? = some (.cells #[x0, x1, x2, x3, x4, x5, x6, x7, x8, y9] t (0, 0)) := (blk_set h7 8 x8).trans rfl
  have h9 : ((((((((((w.setCell ⟨b, 0, none⟩ x0).setCell ⟨b, 1, none⟩ x1).setCell ⟨b, 2, none⟩ x2).setCell ⟨b, 3, none⟩ x3).setCell ⟨b, 4, none⟩ x4).setCell ⟨b, 5, none⟩ x5).setCell ⟨b, 6, none⟩ x6).setCell ⟨b, 7, none⟩ x7).setCell ⟨b, 8, none⟩ x8).setCell ⟨b, 9, none⟩ x9).heap[b]? = some (.cells #[x0, x1, x2, x3, x4, x5, x6, x7, x8, x9] t (0, 0)) := (blk_set h8 9 x9).trans rfl
  exact h9
theorem below_set10 {w0 w : World} {B b : Nat} {x0 x1 x2 x3 x4 x5 x6 x7 x8 x9 : Value} (h : Below B w0 w) (hb : B ≤ b) : Below B w0 ((((((((((w.setCell ⟨b, 0, none⟩ x0).setCell ⟨b, 1, none⟩ x1).setCell ⟨b, 2, none⟩ x2).setCell ⟨b, 3, none⟩ x3).setCell ⟨b, 4, none⟩ x4).setCell ⟨b, 5, none⟩ x5).setCell ⟨b, 6, none⟩ x6).setCell ⟨b, 7, none⟩ x7).setCell ⟨b, 8, none⟩ x8).setCell ⟨b, 9, none⟩ x9) := by
  exact ((((((((((h.setCell hb _).setCell hb _).setCell hb _).setCell hb _).setCell hb _).setCell hb _).setCell hb _).setCell hb _).setCell hb _).setCell hb _)

set_option maxHeartbeats 2000000 in
set_option maxRecDepth 100000 in
theorem cuts_dead_2 (p : Option Addr) (most n : Int) (A : Option Addr) (l c : Nat) (z wd : Bool) (w : World) (h : Dead w p) :
    Calls Try.prog 20 #[.pointer p, .agg #[.int .i64 2, .slice A l c, .int .u32 most, .bool z, .bool wd, .int .i64 n]] w fun e w' => e = .returned (.agg #[.int .i64 0, .int .u64 0, .int .u64 0, .int .u64 0, .int .u64 0, .int .u64 0, .int .u64 0, .int .u64 0, .int .u64 0, .slice none 0 0]) ∧ Below w.heap.size w w' := by
  have HD := Lib.hid h
  clear h
  have HB0 : Hid (Below w.heap.size w ((w.alloc (.cells #[.int .i64 2, .slice A l c, .int .u32 most, .bool z, .bool wd, .int .i64 n] 54)).alloc (.cells #[.int .i64 0, .int .u64 0, .int .u64 0, .int .u64 0, .int .u64 0, .int .u64 0, .int .u64 0, .int .u64 0, .int .u64 0, .slice none 0 0] 57))) := Lib.hid (below_alloc (below_alloc (Below.refl _ _) _) _)
  have HK : Hid (((w.alloc (.cells #[.int .i64 2, .slice A l c, .int .u32 most, .bool z, .bool wd, .int .i64 n] 54)).alloc (.cells #[.int .i64 0, .int .u64 0, .int .u64 0, .int .u64 0, .int .u64 0, .int .u64 0, .int .u64 0, .int .u64 0, .int .u64 0, .slice none 0 0] 57)).heap[w.heap.size + 1]? = some (.cells #[.int .i64 0, .int .u64 0, .int .u64 0, .int .u64 0, .int .u64 0, .int .u64 0, .int .u64 0, .int .u64 0, .int .u64 0, .slice none 0 0] 57 (0, 0))) := Lib.hid (by simpa using blk_new (w.alloc (.cells #[.int .i64 2, .slice A l c, .int .u32 most, .bool z, .bool wd, .int .i64 n] 54)) (.cells #[.int .i64 0, .int .u64 0, .int .u64 0, .int .u64 0, .int .u64 0, .int .u64 0, .int .u64 0, .int .u64 0, .int .u64 0, .slice none 0 0] 57))
  go_enter Try.func20, Try.ntmps20
  go_wp2_with fail
  refine (Greeting_dead p _ (HD.out.below HB0.out)).mono ?_
  rintro e w1 ⟨rfl, hb⟩
  have hk1 := (hb.block (w.heap.size + 1) (blk_lt HK.out)).trans HK.out
  have hc1 : ∀ o, w1.cell? ⟨w.heap.size + 1, o, none⟩ = _ := fun o => blk_cell hk1 o
  have hf1 : ∀ o, w1.frozen? ⟨w.heap.size + 1, o, none⟩ = false := fun o => blk_frozen hk1 o
  have hn1 : ¬ w1.heap.size = w.heap.size + 1 := by have := blk_lt hk1; omega
  have hl1 : w.heap.size + 1 < w1.heap.size := blk_lt hk1
  have HB1 : Hid (Below w.heap.size w w1) := Lib.hid (HB0.out.trans (hb.mono HB0.out.size))
  have HK := Lib.hid hk1
  clear hb hk1
  have HBb := Lib.hid HB1.out
  go_wp2_with fail
  have HK := Lib.hid HK.out
  have HB := Lib.hid HB1.out

  generalize hwf : World.setCell _ _ _ = wf
  have hbk : wf.heap[w.heap.size + 1]? = some (.cells #[.int .i64 0, .int .u64 0, .int .u64 0, .int .u64 0, .int .u64 0, .int .u64 0, .int .u64 0, .int .u64 0, .int .u64 0, .slice none 0 0] 57 (0, 0)) := by rw [← hwf]; exact blk_set10 HK.out
  have hbel : Below w.heap.size w wf := by rw [← hwf]; exact below_set10 HB.out (by omega)
  clear hwf
  generalize hwg : World.alloc wf _ = wg
  have hbk : wg.heap[w.heap.size + 1]? = some (.cells #[.int .i64 0, .int .u64 0, .int .u64 0, .int .u64 0, .int .u64 0, .int .u64 0, .int .u64 0, .int .u64 0, .int .u64 0, .slice none 0 0] 57 (0, 0)) := by rw [← hwg]; exact blk_alloc hbk _
  have hbel : Below w.heap.size w wg := by rw [← hwg]; exact below_alloc hbel _
  clear hwg
  have q0 : wg.cell? ⟨w.heap.size + 1, 0, none⟩ = some _ := (blk_cell hbk 0).trans rfl
  have q1 : wg.cell? ⟨w.heap.size + 1, 1, none⟩ = some _ := (blk_cell hbk 1).trans rfl
  have q2 : wg.cell? ⟨w.heap.size + 1, 2, none⟩ = some _ := (blk_cell hbk 2).trans rfl
  have q3 : wg.cell? ⟨w.heap.size + 1, 3, none⟩ = some _ := (blk_cell hbk 3).trans rfl
  have q4 : wg.cell? ⟨w.heap.size + 1, 4, none⟩ = some _ := (blk_cell hbk 4).trans rfl
  have q5 : wg.cell? ⟨w.heap.size + 1, 5, none⟩ = some _ := (blk_cell hbk 5).trans rfl
  have q6 : wg.cell? ⟨w.heap.size + 1, 6, none⟩ = some _ := (blk_cell hbk 6).trans rfl
  have q7 : wg.cell? ⟨w.heap.size + 1, 7, none⟩ = some _ := (blk_cell hbk 7).trans rfl
  have q8 : wg.cell? ⟨w.heap.size + 1, 8, none⟩ = some _ := (blk_cell hbk 8).trans rfl
  have q9 : wg.cell? ⟨w.heap.size + 1, 9, none⟩ = some _ := (blk_cell hbk 9).trans rfl
  have HBE := Lib.hid hbel
  clear hbk hbel
  exact bodyPost_ret (v := .agg #[.int .i64 0, .int .u64 0, .int .u64 0, .int .u64 0, .int .u64 0, .int .u64 0, .int .u64 0, .int .u64 0, .int .u64 0, .slice none 0 0]) (by simp [results, Try.results20, go_sem, q0, q1, q2, q3, q4, q5, q6, q7, q8, q9]) rfl ⟨rfl, HBE.out⟩

set_option maxHeartbeats 2000000 in
set_option maxRecDepth 100000 in
theorem cuts_dead_3 (p : Option Addr) (most n : Int) (A : Option Addr) (l c : Nat) (z wd : Bool) (w : World) (h : Dead w p) :
    Calls Try.prog 20 #[.pointer p, .agg #[.int .i64 3, .slice A l c, .int .u32 most, .bool z, .bool wd, .int .i64 n]] w fun e w' => e = .returned (.agg #[.int .i64 0, .int .u64 0, .int .u64 0, .int .u64 0, .int .u64 0, .int .u64 0, .int .u64 0, .int .u64 0, .int .u64 0, .slice none 0 0]) ∧ Below w.heap.size w w' := by
  have HD := Lib.hid h
  clear h
  have HB0 : Hid (Below w.heap.size w ((w.alloc (.cells #[.int .i64 3, .slice A l c, .int .u32 most, .bool z, .bool wd, .int .i64 n] 54)).alloc (.cells #[.int .i64 0, .int .u64 0, .int .u64 0, .int .u64 0, .int .u64 0, .int .u64 0, .int .u64 0, .int .u64 0, .int .u64 0, .slice none 0 0] 57))) := Lib.hid (below_alloc (below_alloc (Below.refl _ _) _) _)
  have HK : Hid (((w.alloc (.cells #[.int .i64 3, .slice A l c, .int .u32 most, .bool z, .bool wd, .int .i64 n] 54)).alloc (.cells #[.int .i64 0, .int .u64 0, .int .u64 0, .int .u64 0, .int .u64 0, .int .u64 0, .int .u64 0, .int .u64 0, .int .u64 0, .slice none 0 0] 57)).heap[w.heap.size + 1]? = some (.cells #[.int .i64 0, .int .u64 0, .int .u64 0, .int .u64 0, .int .u64 0, .int .u64 0, .int .u64 0, .int .u64 0, .int .u64 0, .slice none 0 0] 57 (0, 0))) := Lib.hid (by simpa using blk_new (w.alloc (.cells #[.int .i64 3, .slice A l c, .int .u32 most, .bool z, .bool wd, .int .i64 n] 54)) (.cells #[.int .i64 0, .int .u64 0, .int .u64 0, .int .u64 0, .int .u64 0, .int .u64 0, .int .u64 0, .int .u64 0, .int .u64 0, .slice none 0 0] 57))
  go_enter Try.func20, Try.ntmps20
  go_wp2_with fail
  refine (Flags_dead p _ (HD.out.below HB0.out)).mono ?_
  rintro e w1 ⟨rfl, hb⟩
  have hk1 := (hb.block (w.heap.size + 1) (blk_lt HK.out)).trans HK.out
  have hc1 : ∀ o, w1.cell? ⟨w.heap.size + 1, o, none⟩ = _ := fun o => blk_cell hk1 o
  have hf1 : ∀ o, w1.frozen? ⟨w.heap.size + 1, o, none⟩ = false := fun o => blk_frozen hk1 o
  have hn1 : ¬ w1.heap.size = w.heap.size + 1 := by have := blk_lt hk1; omega
  have hl1 : w.heap.size + 1 < w1.heap.size := blk_lt hk1
  have HB1 : Hid (Below w.heap.size w w1) := Lib.hid (HB0.out.trans (hb.mono HB0.out.size))
  have HK := Lib.hid hk1
  clear hb hk1
  have HBb := Lib.hid HB1.out
  go_wp2_with fail
  have HB := Lib.hid HB1.out

  generalize hwf : World.setCell _ _ _ = wf
  have hbk : wf.heap[w.heap.size + 1]? = some (.cells #[.int .i64 0, .int .u64 0, .int .u64 0, .int .u64 0, .int .u64 0, .int .u64 0, .int .u64 0, .int .u64 0, .int .u64 0, .slice none 0 0] 57 (0, 0)) := by rw [← hwf]; exact blk_set10 HK.out
  have hbel : Below w.heap.size w wf := by rw [← hwf]; exact below_set10 HB.out (by omega)
  clear hwf
  have q0 : wf.cell? ⟨w.heap.size + 1, 0, none⟩ = some _ := (blk_cell hbk 0).trans rfl
  have q1 : wf.cell? ⟨w.heap.size + 1, 1, none⟩ = some _ := (blk_cell hbk 1).trans rfl
  have q2 : wf.cell? ⟨w.heap.size + 1, 2, none⟩ = some _ := (blk_cell hbk 2).trans rfl
  have q3 : wf.cell? ⟨w.heap.size + 1, 3, none⟩ = some _ := (blk_cell hbk 3).trans rfl
  have q4 : wf.cell? ⟨w.heap.size + 1, 4, none⟩ = some _ := (blk_cell hbk 4).trans rfl
  have q5 : wf.cell? ⟨w.heap.size + 1, 5, none⟩ = some _ := (blk_cell hbk 5).trans rfl
  have q6 : wf.cell? ⟨w.heap.size + 1, 6, none⟩ = some _ := (blk_cell hbk 6).trans rfl
  have q7 : wf.cell? ⟨w.heap.size + 1, 7, none⟩ = some _ := (blk_cell hbk 7).trans rfl
  have q8 : wf.cell? ⟨w.heap.size + 1, 8, none⟩ = some _ := (blk_cell hbk 8).trans rfl
  have q9 : wf.cell? ⟨w.heap.size + 1, 9, none⟩ = some _ := (blk_cell hbk 9).trans rfl
  have HBE := Lib.hid hbel
  clear hbk hbel
  exact bodyPost_ret (v := .agg #[.int .i64 0, .int .u64 0, .int .u64 0, .int .u64 0, .int .u64 0, .int .u64 0, .int .u64 0, .int .u64 0, .int .u64 0, .slice none 0 0]) (by simp [results, Try.results20, go_sem, q0, q1, q2, q3, q4, q5, q6, q7, q8, q9]) rfl ⟨rfl, HBE.out⟩

set_option maxHeartbeats 2000000 in
set_option maxRecDepth 100000 in
theorem cuts_dead_4 (p : Option Addr) (most n : Int) (A : Option Addr) (l c : Nat) (z wd : Bool) (w : World) (h : Dead w p) :
    Calls Try.prog 20 #[.pointer p, .agg #[.int .i64 4, .slice A l c, .int .u32 most, .bool z, .bool wd, .int .i64 n]] w fun e w' => e = .returned (.agg #[.int .i64 0, .int .u64 0, .int .u64 0, .int .u64 0, .int .u64 0, .int .u64 0, .int .u64 0, .int .u64 0, .int .u64 0, .slice none 0 0]) ∧ Below w.heap.size w w' := by
  have HD := Lib.hid h
  clear h
  have HB0 : Hid (Below w.heap.size w ((w.alloc (.cells #[.int .i64 4, .slice A l c, .int .u32 most, .bool z, .bool wd, .int .i64 n] 54)).alloc (.cells #[.int .i64 0, .int .u64 0, .int .u64 0, .int .u64 0, .int .u64 0, .int .u64 0, .int .u64 0, .int .u64 0, .int .u64 0, .slice none 0 0] 57))) := Lib.hid (below_alloc (below_alloc (Below.refl _ _) _) _)
  have HK : Hid (((w.alloc (.cells #[.int .i64 4, .slice A l c, .int .u32 most, .bool z, .bool wd, .int .i64 n] 54)).alloc (.cells #[.int .i64 0, .int .u64 0, .int .u64 0, .int .u64 0, .int .u64 0, .int .u64 0, .int .u64 0, .int .u64 0, .int .u64 0, .slice none 0 0] 57)).heap[w.heap.size + 1]? = some (.cells #[.int .i64 0, .int .u64 0, .int .u64 0, .int .u64 0, .int .u64 0, .int .u64 0, .int .u64 0, .int .u64 0, .int .u64 0, .slice none 0 0] 57 (0, 0))) := Lib.hid (by simpa using blk_new (w.alloc (.cells #[.int .i64 4, .slice A l c, .int .u32 most, .bool z, .bool wd, .int .i64 n] 54)) (.cells #[.int .i64 0, .int .u64 0, .int .u64 0, .int .u64 0, .int .u64 0, .int .u64 0, .int .u64 0, .int .u64 0, .int .u64 0, .slice none 0 0] 57))
  go_enter Try.func20, Try.ntmps20
  go_wp2_with fail
  refine (Option_dead p most _ (HD.out.below HB0.out)).mono ?_
  rintro e w1 ⟨rfl, hb⟩
  have hk1 := (hb.block (w.heap.size + 1) (blk_lt HK.out)).trans HK.out
  have hc1 : ∀ o, w1.cell? ⟨w.heap.size + 1, o, none⟩ = _ := fun o => blk_cell hk1 o
  have hf1 : ∀ o, w1.frozen? ⟨w.heap.size + 1, o, none⟩ = false := fun o => blk_frozen hk1 o
  have hn1 : ¬ w1.heap.size = w.heap.size + 1 := by have := blk_lt hk1; omega
  have hl1 : w.heap.size + 1 < w1.heap.size := blk_lt hk1
  have HB1 : Hid (Below w.heap.size w w1) := Lib.hid (HB0.out.trans (hb.mono HB0.out.size))
  have HK := Lib.hid hk1
  clear hb hk1
  go_wp2_with fail
  refine (ofOption_any 0 0 false none 0 0 0 (by decide) (by decide) _).mono ?_
  rintro e w2 ⟨rfl, hb⟩
  have hk2 := (hb.block (w.heap.size + 1) (blk_lt (blk_alloc HK.out _))).trans (blk_alloc HK.out _)
  have hc2 : ∀ o, w2.cell? ⟨w.heap.size + 1, o, none⟩ = _ := fun o => blk_cell hk2 o
  have hf2 : ∀ o, w2.frozen? ⟨w.heap.size + 1, o, none⟩ = false := fun o => blk_frozen hk2 o
  have hn2 : ¬ w2.heap.size = w.heap.size + 1 := by have := blk_lt hk2; omega
  have hl2 : w.heap.size + 1 < w2.heap.size := blk_lt hk2
  have HB : Hid (Below w.heap.size w w2) := Lib.hid ((below_alloc HB1.out _).trans (hb.mono (by have := HB1.out.size; first | (simp; done) | (simp; omega))))
  have HK := Lib.hid hk2
  clear hb hk2
  go_wp2_with fail

  generalize hwf : World.setCell _ _ _ = wf
  have hbk : wf.heap[w.heap.size + 1]? = some (.cells #[.int .i64 0, .int .u64 0, .int .u64 0, .int .u64 0, .int .u64 0, .int .u64 0, .int .u64 0, .int .u64 0, .int .u64 0, .slice none 0 0] 57 (0, 0)) := by rw [← hwf]; exact blk_set10 HK.out
  have hbel : Below w.heap.size w wf := by rw [← hwf]; exact below_set10 HB.out (by omega)
  clear hwf
  have q0 : wf.cell? ⟨w.heap.size + 1, 0, none⟩ = some _ := (blk_cell hbk 0).trans rfl
  have q1 : wf.cell? ⟨w.heap.size + 1, 1, none⟩ = some _ := (blk_cell hbk 1).trans rfl
  have q2 : wf.cell? ⟨w.heap.size + 1, 2, none⟩ = some _ := (blk_cell hbk 2).trans rfl
  have q3 : wf.cell? ⟨w.heap.size + 1, 3, none⟩ = some _ := (blk_cell hbk 3).trans rfl
  have q4 : wf.cell? ⟨w.heap.size + 1, 4, none⟩ = some _ := (blk_cell hbk 4).trans rfl
  have q5 : wf.cell? ⟨w.heap.size + 1, 5, none⟩ = some _ := (blk_cell hbk 5).trans rfl
  have q6 : wf.cell? ⟨w.heap.size + 1, 6, none⟩ = some _ := (blk_cell hbk 6).trans rfl
  have q7 : wf.cell? ⟨w.heap.size + 1, 7, none⟩ = some _ := (blk_cell hbk 7).trans rfl
  have q8 : wf.cell? ⟨w.heap.size + 1, 8, none⟩ = some _ := (blk_cell hbk 8).trans rfl
  have q9 : wf.cell? ⟨w.heap.size + 1, 9, none⟩ = some _ := (blk_cell hbk 9).trans rfl
  have HBE := Lib.hid hbel
  clear hbk hbel
  exact bodyPost_ret (v := .agg #[.int .i64 0, .int .u64 0, .int .u64 0, .int .u64 0, .int .u64 0, .int .u64 0, .int .u64 0, .int .u64 0, .int .u64 0, .slice none 0 0]) (by simp [results, Try.results20, go_sem, q0, q1, q2, q3, q4, q5, q6, q7, q8, q9]) rfl ⟨rfl, HBE.out⟩

set_option maxHeartbeats 2000000 in
set_option maxRecDepth 100000 in
theorem cuts_dead_5 (p : Option Addr) (most n : Int) (A : Option Addr) (l c : Nat) (z wd : Bool) (w : World) (h : Dead w p) :
    Calls Try.prog 20 #[.pointer p, .agg #[.int .i64 5, .slice A l c, .int .u32 most, .bool z, .bool wd, .int .i64 n]] w fun e w' => e = .returned (.agg #[.int .i64 0, .int .u64 0, .int .u64 0, .int .u64 0, .int .u64 0, .int .u64 0, .int .u64 0, .int .u64 0, .int .u64 0, .slice none 0 0]) ∧ Below w.heap.size w w' := by
  have HD := Lib.hid h
  clear h
  have HB0 : Hid (Below w.heap.size w ((w.alloc (.cells #[.int .i64 5, .slice A l c, .int .u32 most, .bool z, .bool wd, .int .i64 n] 54)).alloc (.cells #[.int .i64 0, .int .u64 0, .int .u64 0, .int .u64 0, .int .u64 0, .int .u64 0, .int .u64 0, .int .u64 0, .int .u64 0, .slice none 0 0] 57))) := Lib.hid (below_alloc (below_alloc (Below.refl _ _) _) _)
  have HK : Hid (((w.alloc (.cells #[.int .i64 5, .slice A l c, .int .u32 most, .bool z, .bool wd, .int .i64 n] 54)).alloc (.cells #[.int .i64 0, .int .u64 0, .int .u64 0, .int .u64 0, .int .u64 0, .int .u64 0, .int .u64 0, .int .u64 0, .int .u64 0, .slice none 0 0] 57)).heap[w.heap.size + 1]? = some (.cells #[.int .i64 0, .int .u64 0, .int .u64 0, .int .u64 0, .int .u64 0, .int .u64 0, .int .u64 0, .int .u64 0, .int .u64 0, .slice none 0 0] 57 (0, 0))) := Lib.hid (by simpa using blk_new (w.alloc (.cells #[.int .i64 5, .slice A l c, .int .u32 most, .bool z, .bool wd, .int .i64 n] 54)) (.cells #[.int .i64 0, .int .u64 0, .int .u64 0, .int .u64 0, .int .u64 0, .int .u64 0, .int .u64 0, .int .u64 0, .int .u64 0, .slice none 0 0] 57))
  go_enter Try.func20, Try.ntmps20
  go_wp2_with fail
  refine (OptionReply_dead p most _ (HD.out.below HB0.out)).mono ?_
  rintro e w1 ⟨rfl, hb⟩
  have hk1 := (hb.block (w.heap.size + 1) (blk_lt HK.out)).trans HK.out
  have hc1 : ∀ o, w1.cell? ⟨w.heap.size + 1, o, none⟩ = _ := fun o => blk_cell hk1 o
  have hf1 : ∀ o, w1.frozen? ⟨w.heap.size + 1, o, none⟩ = false := fun o => blk_frozen hk1 o
  have hn1 : ¬ w1.heap.size = w.heap.size + 1 := by have := blk_lt hk1; omega
  have hl1 : w.heap.size + 1 < w1.heap.size := blk_lt hk1
  have HB1 : Hid (Below w.heap.size w w1) := Lib.hid (HB0.out.trans (hb.mono HB0.out.size))
  have HK := Lib.hid hk1
  clear hb hk1
  go_wp2_with fail
  refine (ofReply_any 0 0 none 0 0 0 (by decide) (by decide) _).mono ?_
  rintro e w2 ⟨rfl, hb⟩
  have hk2 := (hb.block (w.heap.size + 1) (blk_lt (blk_alloc HK.out _))).trans (blk_alloc HK.out _)
  have hc2 : ∀ o, w2.cell? ⟨w.heap.size + 1, o, none⟩ = _ := fun o => blk_cell hk2 o
  have hf2 : ∀ o, w2.frozen? ⟨w.heap.size + 1, o, none⟩ = false := fun o => blk_frozen hk2 o
  have hn2 : ¬ w2.heap.size = w.heap.size + 1 := by have := blk_lt hk2; omega
  have hl2 : w.heap.size + 1 < w2.heap.size := blk_lt hk2
  have HB : Hid (Below w.heap.size w w2) := Lib.hid ((below_alloc HB1.out _).trans (hb.mono (by have := HB1.out.size; first | (simp; done) | (simp; omega))))
  have HK := Lib.hid hk2
  clear hb hk2
  go_wp2_with fail

  generalize hwf : World.setCell _ _ _ = wf
  have hbk : wf.heap[w.heap.size + 1]? = some (.cells #[.int .i64 0, .int .u64 0, .int .u64 0, .int .u64 0, .int .u64 0, .int .u64 0, .int .u64 0, .int .u64 0, .int .u64 0, .slice none 0 0] 57 (0, 0)) := by rw [← hwf]; exact blk_set10 HK.out
  have hbel : Below w.heap.size w wf := by rw [← hwf]; exact below_set10 HB.out (by omega)
  clear hwf
  have q0 : wf.cell? ⟨w.heap.size + 1, 0, none⟩ = some _ := (blk_cell hbk 0).trans rfl
  have q1 : wf.cell? ⟨w.heap.size + 1, 1, none⟩ = some _ := (blk_cell hbk 1).trans rfl
  have q2 : wf.cell? ⟨w.heap.size + 1, 2, none⟩ = some _ := (blk_cell hbk 2).trans rfl
  have q3 : wf.cell? ⟨w.heap.size + 1, 3, none⟩ = some _ := (blk_cell hbk 3).trans rfl
  have q4 : wf.cell? ⟨w.heap.size + 1, 4, none⟩ = some _ := (blk_cell hbk 4).trans rfl
  have q5 : wf.cell? ⟨w.heap.size + 1, 5, none⟩ = some _ := (blk_cell hbk 5).trans rfl
  have q6 : wf.cell? ⟨w.heap.size + 1, 6, none⟩ = some _ := (blk_cell hbk 6).trans rfl
  have q7 : wf.cell? ⟨w.heap.size + 1, 7, none⟩ = some _ := (blk_cell hbk 7).trans rfl
  have q8 : wf.cell? ⟨w.heap.size + 1, 8, none⟩ = some _ := (blk_cell hbk 8).trans rfl
  have q9 : wf.cell? ⟨w.heap.size + 1, 9, none⟩ = some _ := (blk_cell hbk 9).trans rfl
  have HBE := Lib.hid hbel
  clear hbk hbel
  exact bodyPost_ret (v := .agg #[.int .i64 0, .int .u64 0, .int .u64 0, .int .u64 0, .int .u64 0, .int .u64 0, .int .u64 0, .int .u64 0, .int .u64 0, .slice none 0 0]) (by simp [results, Try.results20, go_sem, q0, q1, q2, q3, q4, q5, q6, q7, q8, q9]) rfl ⟨rfl, HBE.out⟩

set_option maxHeartbeats 2000000 in
set_option maxRecDepth 100000 in
theorem cuts_dead_6 (p : Option Addr) (most n : Int) (A : Option Addr) (l c : Nat) (z wd : Bool) (w : World) (h : Dead w p) :
    Calls Try.prog 20 #[.pointer p, .agg #[.int .i64 6, .slice A l c, .int .u32 most, .bool z, .bool wd, .int .i64 n]] w fun e w' => e = .returned (.agg #[.int .i64 0, .int .u64 0, .int .u64 0, .int .u64 0, .int .u64 0, .int .u64 0, .int .u64 0, .int .u64 0, .int .u64 0, .slice none 0 0]) ∧ Below w.heap.size w w' := by
  have HD := Lib.hid h
  clear h
  have HB0 : Hid (Below w.heap.size w ((w.alloc (.cells #[.int .i64 6, .slice A l c, .int .u32 most, .bool z, .bool wd, .int .i64 n] 54)).alloc (.cells #[.int .i64 0, .int .u64 0, .int .u64 0, .int .u64 0, .int .u64 0, .int .u64 0, .int .u64 0, .int .u64 0, .int .u64 0, .slice none 0 0] 57))) := Lib.hid (below_alloc (below_alloc (Below.refl _ _) _) _)
  have HK : Hid (((w.alloc (.cells #[.int .i64 6, .slice A l c, .int .u32 most, .bool z, .bool wd, .int .i64 n] 54)).alloc (.cells #[.int .i64 0, .int .u64 0, .int .u64 0, .int .u64 0, .int .u64 0, .int .u64 0, .int .u64 0, .int .u64 0, .int .u64 0, .slice none 0 0] 57)).heap[w.heap.size + 1]? = some (.cells #[.int .i64 0, .int .u64 0, .int .u64 0, .int .u64 0, .int .u64 0, .int .u64 0, .int .u64 0, .int .u64 0, .int .u64 0, .slice none 0 0] 57 (0, 0))) := Lib.hid (by simpa using blk_new (w.alloc (.cells #[.int .i64 6, .slice A l c, .int .u32 most, .bool z, .bool wd, .int .i64 n] 54)) (.cells #[.int .i64 0, .int .u64 0, .int .u64 0, .int .u64 0, .int .u64 0, .int .u64 0, .int .u64 0, .int .u64 0, .int .u64 0, .slice none 0 0] 57))
  go_enter Try.func20, Try.ntmps20
  go_wp2_with fail
  refine (ExportReply_dead p z _ (HD.out.below HB0.out)).mono ?_
  rintro e w1 ⟨rfl, hb⟩
  have hk1 := (hb.block (w.heap.size + 1) (blk_lt HK.out)).trans HK.out
  have hc1 : ∀ o, w1.cell? ⟨w.heap.size + 1, o, none⟩ = _ := fun o => blk_cell hk1 o
  have hf1 : ∀ o, w1.frozen? ⟨w.heap.size + 1, o, none⟩ = false := fun o => blk_frozen hk1 o
  have hn1 : ¬ w1.heap.size = w.heap.size + 1 := by have := blk_lt hk1; omega
  have hl1 : w.heap.size + 1 < w1.heap.size := blk_lt hk1
  have HB1 : Hid (Below w.heap.size w w1) := Lib.hid (HB0.out.trans (hb.mono HB0.out.size))
  have HK := Lib.hid hk1
  clear hb hk1
  have HBb := Lib.hid HB1.out
  go_wp2_with fail
  have HK := Lib.hid HK.out
  have HB := Lib.hid HB1.out

  generalize hwf : World.setCell _ _ _ = wf
  have hbk : wf.heap[w.heap.size + 1]? = some (.cells #[.int .i64 0, .int .u64 0, .int .u64 0, .int .u64 0, .int .u64 0, .int .u64 0, .int .u64 0, .int .u64 0, .int .u64 0, .slice none 0 0] 57 (0, 0)) := by rw [← hwf]; exact blk_set10 HK.out
  have hbel : Below w.heap.size w wf := by rw [← hwf]; exact below_set10 HB.out (by omega)
  clear hwf
  generalize hwg : World.alloc wf _ = wg
  have hbk : wg.heap[w.heap.size + 1]? = some (.cells #[.int .i64 0, .int .u64 0, .int .u64 0, .int .u64 0, .int .u64 0, .int .u64 0, .int .u64 0, .int .u64 0, .int .u64 0, .slice none 0 0] 57 (0, 0)) := by rw [← hwg]; exact blk_alloc hbk _
  have hbel : Below w.heap.size w wg := by rw [← hwg]; exact below_alloc hbel _
  clear hwg
  have q0 : wg.cell? ⟨w.heap.size + 1, 0, none⟩ = some _ := (blk_cell hbk 0).trans rfl
  have q1 : wg.cell? ⟨w.heap.size + 1, 1, none⟩ = some _ := (blk_cell hbk 1).trans rfl
  have q2 : wg.cell? ⟨w.heap.size + 1, 2, none⟩ = some _ := (blk_cell hbk 2).trans rfl
  have q3 : wg.cell? ⟨w.heap.size + 1, 3, none⟩ = some _ := (blk_cell hbk 3).trans rfl
  have q4 : wg.cell? ⟨w.heap.size + 1, 4, none⟩ = some _ := (blk_cell hbk 4).trans rfl
  have q5 : wg.cell? ⟨w.heap.size + 1, 5, none⟩ = some _ := (blk_cell hbk 5).trans rfl
  have q6 : wg.cell? ⟨w.heap.size + 1, 6, none⟩ = some _ := (blk_cell hbk 6).trans rfl
  have q7 : wg.cell? ⟨w.heap.size + 1, 7, none⟩ = some _ := (blk_cell hbk 7).trans rfl
  have q8 : wg.cell? ⟨w.heap.size + 1, 8, none⟩ = some _ := (blk_cell hbk 8).trans rfl
  have q9 : wg.cell? ⟨w.heap.size + 1, 9, none⟩ = some _ := (blk_cell hbk 9).trans rfl
  have HBE := Lib.hid hbel
  clear hbk hbel
  exact bodyPost_ret (v := .agg #[.int .i64 0, .int .u64 0, .int .u64 0, .int .u64 0, .int .u64 0, .int .u64 0, .int .u64 0, .int .u64 0, .int .u64 0, .slice none 0 0]) (by simp [results, Try.results20, go_sem, q0, q1, q2, q3, q4, q5, q6, q7, q8, q9]) rfl ⟨rfl, HBE.out⟩

set_option maxHeartbeats 2000000 in
set_option maxRecDepth 100000 in
theorem cuts_dead_7 (p : Option Addr) (most n : Int) (A : Option Addr) (l c : Nat) (z wd : Bool) (w : World) (h : Dead w p) :
    Calls Try.prog 20 #[.pointer p, .agg #[.int .i64 7, .slice A l c, .int .u32 most, .bool z, .bool wd, .int .i64 n]] w fun e w' => e = .returned (.agg #[.int .i64 0, .int .u64 0, .int .u64 0, .int .u64 0, .int .u64 0, .int .u64 0, .int .u64 0, .int .u64 0, .int .u64 0, .slice none 0 0]) ∧ Below w.heap.size w w' := by
  have HD := Lib.hid h
  clear h
  have HB0 : Hid (Below w.heap.size w ((w.alloc (.cells #[.int .i64 7, .slice A l c, .int .u32 most, .bool z, .bool wd, .int .i64 n] 54)).alloc (.cells #[.int .i64 0, .int .u64 0, .int .u64 0, .int .u64 0, .int .u64 0, .int .u64 0, .int .u64 0, .int .u64 0, .int .u64 0, .slice none 0 0] 57))) := Lib.hid (below_alloc (below_alloc (Below.refl _ _) _) _)
  have HK : Hid (((w.alloc (.cells #[.int .i64 7, .slice A l c, .int .u32 most, .bool z, .bool wd, .int .i64 n] 54)).alloc (.cells #[.int .i64 0, .int .u64 0, .int .u64 0, .int .u64 0, .int .u64 0, .int .u64 0, .int .u64 0, .int .u64 0, .int .u64 0, .slice none 0 0] 57)).heap[w.heap.size + 1]? = some (.cells #[.int .i64 0, .int .u64 0, .int .u64 0, .int .u64 0, .int .u64 0, .int .u64 0, .int .u64 0, .int .u64 0, .int .u64 0, .slice none 0 0] 57 (0, 0))) := Lib.hid (by simpa using blk_new (w.alloc (.cells #[.int .i64 7, .slice A l c, .int .u32 most, .bool z, .bool wd, .int .i64 n] 54)) (.cells #[.int .i64 0, .int .u64 0, .int .u64 0, .int .u64 0, .int .u64 0, .int .u64 0, .int .u64 0, .int .u64 0, .int .u64 0, .slice none 0 0] 57))
  go_enter Try.func20, Try.ntmps20
  go_wp2_with fail
  refine (Request_dead p most wd _ (HD.out.below HB0.out)).mono ?_
  rintro e w1 ⟨rfl, hb⟩
  have hk1 := (hb.block (w.heap.size + 1) (blk_lt HK.out)).trans HK.out
  have hc1 : ∀ o, w1.cell? ⟨w.heap.size + 1, o, none⟩ = _ := fun o => blk_cell hk1 o
  have hf1 : ∀ o, w1.frozen? ⟨w.heap.size + 1, o, none⟩ = false := fun o => blk_frozen hk1 o
  have hn1 : ¬ w1.heap.size = w.heap.size + 1 := by have := blk_lt hk1; omega
  have hl1 : w.heap.size + 1 < w1.heap.size := blk_lt hk1
  have HB1 : Hid (Below w.heap.size w w1) := Lib.hid (HB0.out.trans (hb.mono HB0.out.size))
  have HK := Lib.hid hk1
  clear hb hk1
  go_wp2_with fail
  refine (ofRequest_any 0 0 0 0 0 none 0 0 0 (by decide) (by decide) _).mono ?_
  rintro e w2 ⟨rfl, hb⟩
  have hk2 := (hb.block (w.heap.size + 1) (blk_lt (blk_alloc HK.out _))).trans (blk_alloc HK.out _)
  have hc2 : ∀ o, w2.cell? ⟨w.heap.size + 1, o, none⟩ = _ := fun o => blk_cell hk2 o
  have hf2 : ∀ o, w2.frozen? ⟨w.heap.size + 1, o, none⟩ = false := fun o => blk_frozen hk2 o
  have hn2 : ¬ w2.heap.size = w.heap.size + 1 := by have := blk_lt hk2; omega
  have hl2 : w.heap.size + 1 < w2.heap.size := blk_lt hk2
  have HB : Hid (Below w.heap.size w w2) := Lib.hid ((below_alloc HB1.out _).trans (hb.mono (by have := HB1.out.size; first | (simp; done) | (simp; omega))))
  have HK := Lib.hid hk2
  clear hb hk2
  go_wp2_with fail

  generalize hwf : World.setCell _ _ _ = wf
  have hbk : wf.heap[w.heap.size + 1]? = some (.cells #[.int .i64 0, .int .u64 0, .int .u64 0, .int .u64 0, .int .u64 0, .int .u64 0, .int .u64 0, .int .u64 0, .int .u64 0, .slice none 0 0] 57 (0, 0)) := by rw [← hwf]; exact blk_set10 HK.out
  have hbel : Below w.heap.size w wf := by rw [← hwf]; exact below_set10 HB.out (by omega)
  clear hwf
  have q0 : wf.cell? ⟨w.heap.size + 1, 0, none⟩ = some _ := (blk_cell hbk 0).trans rfl
  have q1 : wf.cell? ⟨w.heap.size + 1, 1, none⟩ = some _ := (blk_cell hbk 1).trans rfl
  have q2 : wf.cell? ⟨w.heap.size + 1, 2, none⟩ = some _ := (blk_cell hbk 2).trans rfl
  have q3 : wf.cell? ⟨w.heap.size + 1, 3, none⟩ = some _ := (blk_cell hbk 3).trans rfl
  have q4 : wf.cell? ⟨w.heap.size + 1, 4, none⟩ = some _ := (blk_cell hbk 4).trans rfl
  have q5 : wf.cell? ⟨w.heap.size + 1, 5, none⟩ = some _ := (blk_cell hbk 5).trans rfl
  have q6 : wf.cell? ⟨w.heap.size + 1, 6, none⟩ = some _ := (blk_cell hbk 6).trans rfl
  have q7 : wf.cell? ⟨w.heap.size + 1, 7, none⟩ = some _ := (blk_cell hbk 7).trans rfl
  have q8 : wf.cell? ⟨w.heap.size + 1, 8, none⟩ = some _ := (blk_cell hbk 8).trans rfl
  have q9 : wf.cell? ⟨w.heap.size + 1, 9, none⟩ = some _ := (blk_cell hbk 9).trans rfl
  have HBE := Lib.hid hbel
  clear hbk hbel
  exact bodyPost_ret (v := .agg #[.int .i64 0, .int .u64 0, .int .u64 0, .int .u64 0, .int .u64 0, .int .u64 0, .int .u64 0, .int .u64 0, .int .u64 0, .slice none 0 0]) (by simp [results, Try.results20, go_sem, q0, q1, q2, q3, q4, q5, q6, q7, q8, q9]) rfl ⟨rfl, HBE.out⟩

set_option maxHeartbeats 2000000 in
set_option maxRecDepth 100000 in
theorem cuts_dead_8 (p : Option Addr) (most n : Int) (A : Option Addr) (l c : Nat) (z wd : Bool) (w : World) (h : Dead w p) :
    Calls Try.prog 20 #[.pointer p, .agg #[.int .i64 8, .slice A l c, .int .u32 most, .bool z, .bool wd, .int .i64 n]] w fun e w' => e = .returned (.agg #[.int .i64 0, .int .u64 0, .int .u64 0, .int .u64 0, .int .u64 0, .int .u64 0, .int .u64 0, .int .u64 0, .int .u64 0, .slice none 0 0]) ∧ Below w.heap.size w w' := by
  have HD := Lib.hid h
  clear h
  have HB0 : Hid (Below w.heap.size w ((w.alloc (.cells #[.int .i64 8, .slice A l c, .int .u32 most, .bool z, .bool wd, .int .i64 n] 54)).alloc (.cells #[.int .i64 0, .int .u64 0, .int .u64 0, .int .u64 0, .int .u64 0, .int .u64 0, .int .u64 0, .int .u64 0, .int .u64 0, .slice none 0 0] 57))) := Lib.hid (below_alloc (below_alloc (Below.refl _ _) _) _)
  have HK : Hid (((w.alloc (.cells #[.int .i64 8, .slice A l c, .int .u32 most, .bool z, .bool wd, .int .i64 n] 54)).alloc (.cells #[.int .i64 0, .int .u64 0, .int .u64 0, .int .u64 0, .int .u64 0, .int .u64 0, .int .u64 0, .int .u64 0, .int .u64 0, .slice none 0 0] 57)).heap[w.heap.size + 1]? = some (.cells #[.int .i64 0, .int .u64 0, .int .u64 0, .int .u64 0, .int .u64 0, .int .u64 0, .int .u64 0, .int .u64 0, .int .u64 0, .slice none 0 0] 57 (0, 0))) := Lib.hid (by simpa using blk_new (w.alloc (.cells #[.int .i64 8, .slice A l c, .int .u32 most, .bool z, .bool wd, .int .i64 n] 54)) (.cells #[.int .i64 0, .int .u64 0, .int .u64 0, .int .u64 0, .int .u64 0, .int .u64 0, .int .u64 0, .int .u64 0, .int .u64 0, .slice none 0 0] 57))
  go_enter Try.func20, Try.ntmps20
  go_wp2_with fail
  refine (Reply_dead p most wd _ (HD.out.below HB0.out)).mono ?_
  rintro e w1 ⟨rfl, hb⟩
  have hk1 := (hb.block (w.heap.size + 1) (blk_lt HK.out)).trans HK.out
  have hc1 : ∀ o, w1.cell? ⟨w.heap.size + 1, o, none⟩ = _ := fun o => blk_cell hk1 o
  have hf1 : ∀ o, w1.frozen? ⟨w.heap.size + 1, o, none⟩ = false := fun o => blk_frozen hk1 o
  have hn1 : ¬ w1.heap.size = w.heap.size + 1 := by have := blk_lt hk1; omega
  have hl1 : w.heap.size + 1 < w1.heap.size := blk_lt hk1
  have HB1 : Hid (Below w.heap.size w w1) := Lib.hid (HB0.out.trans (hb.mono HB0.out.size))
  have HK := Lib.hid hk1
  clear hb hk1
  go_wp2_with fail
  refine (ofAnswer_any false 0 0 0 0 0 0 none 0 0 0 (by decide) (by decide) (by decide) _).mono ?_
  rintro e w2 ⟨rfl, hb⟩
  have hk2 := (hb.block (w.heap.size + 1) (blk_lt (blk_alloc HK.out _))).trans (blk_alloc HK.out _)
  have hc2 : ∀ o, w2.cell? ⟨w.heap.size + 1, o, none⟩ = _ := fun o => blk_cell hk2 o
  have hf2 : ∀ o, w2.frozen? ⟨w.heap.size + 1, o, none⟩ = false := fun o => blk_frozen hk2 o
  have hn2 : ¬ w2.heap.size = w.heap.size + 1 := by have := blk_lt hk2; omega
  have hl2 : w.heap.size + 1 < w2.heap.size := blk_lt hk2
  have HB : Hid (Below w.heap.size w w2) := Lib.hid ((below_alloc HB1.out _).trans (hb.mono (by have := HB1.out.size; first | (simp; done) | (simp; omega))))
  have HK := Lib.hid hk2
  clear hb hk2
  go_wp2_with fail

  generalize hwf : World.setCell _ _ _ = wf
  have hbk : wf.heap[w.heap.size + 1]? = some (.cells #[.int .i64 0, .int .u64 0, .int .u64 0, .int .u64 0, .int .u64 0, .int .u64 0, .int .u64 0, .int .u64 0, .int .u64 0, .slice none 0 0] 57 (0, 0)) := by rw [← hwf]; exact blk_set10 HK.out
  have hbel : Below w.heap.size w wf := by rw [← hwf]; exact below_set10 HB.out (by omega)
  clear hwf
  have q0 : wf.cell? ⟨w.heap.size + 1, 0, none⟩ = some _ := (blk_cell hbk 0).trans rfl
  have q1 : wf.cell? ⟨w.heap.size + 1, 1, none⟩ = some _ := (blk_cell hbk 1).trans rfl
  have q2 : wf.cell? ⟨w.heap.size + 1, 2, none⟩ = some _ := (blk_cell hbk 2).trans rfl
  have q3 : wf.cell? ⟨w.heap.size + 1, 3, none⟩ = some _ := (blk_cell hbk 3).trans rfl
  have q4 : wf.cell? ⟨w.heap.size + 1, 4, none⟩ = some _ := (blk_cell hbk 4).trans rfl
  have q5 : wf.cell? ⟨w.heap.size + 1, 5, none⟩ = some _ := (blk_cell hbk 5).trans rfl
  have q6 : wf.cell? ⟨w.heap.size + 1, 6, none⟩ = some _ := (blk_cell hbk 6).trans rfl
  have q7 : wf.cell? ⟨w.heap.size + 1, 7, none⟩ = some _ := (blk_cell hbk 7).trans rfl
  have q8 : wf.cell? ⟨w.heap.size + 1, 8, none⟩ = some _ := (blk_cell hbk 8).trans rfl
  have q9 : wf.cell? ⟨w.heap.size + 1, 9, none⟩ = some _ := (blk_cell hbk 9).trans rfl
  have HBE := Lib.hid hbel
  clear hbk hbel
  exact bodyPost_ret (v := .agg #[.int .i64 0, .int .u64 0, .int .u64 0, .int .u64 0, .int .u64 0, .int .u64 0, .int .u64 0, .int .u64 0, .int .u64 0, .slice none 0 0]) (by simp [results, Try.results20, go_sem, q0, q1, q2, q3, q4, q5, q6, q7, q8, q9]) rfl ⟨rfl, HBE.out⟩

set_option maxHeartbeats 2000000 in
set_option maxRecDepth 100000 in
theorem cuts_dead_9 (p : Option Addr) (most n : Int) (A : Option Addr) (l c : Nat) (z wd : Bool) (w : World) (h : Dead w p) :
    Calls Try.prog 20 #[.pointer p, .agg #[.int .i64 9, .slice A l c, .int .u32 most, .bool z, .bool wd, .int .i64 n]] w fun e w' => e = .returned (.agg #[.int .i64 0, .int .u64 0, .int .u64 0, .int .u64 0, .int .u64 0, .int .u64 0, .int .u64 0, .int .u64 0, .int .u64 0, .slice none 0 0]) ∧ Below w.heap.size w w' := by
  have HD := Lib.hid h
  clear h
  have HB0 : Hid (Below w.heap.size w ((w.alloc (.cells #[.int .i64 9, .slice A l c, .int .u32 most, .bool z, .bool wd, .int .i64 n] 54)).alloc (.cells #[.int .i64 0, .int .u64 0, .int .u64 0, .int .u64 0, .int .u64 0, .int .u64 0, .int .u64 0, .int .u64 0, .int .u64 0, .slice none 0 0] 57))) := Lib.hid (below_alloc (below_alloc (Below.refl _ _) _) _)
  have HK : Hid (((w.alloc (.cells #[.int .i64 9, .slice A l c, .int .u32 most, .bool z, .bool wd, .int .i64 n] 54)).alloc (.cells #[.int .i64 0, .int .u64 0, .int .u64 0, .int .u64 0, .int .u64 0, .int .u64 0, .int .u64 0, .int .u64 0, .int .u64 0, .slice none 0 0] 57)).heap[w.heap.size + 1]? = some (.cells #[.int .i64 0, .int .u64 0, .int .u64 0, .int .u64 0, .int .u64 0, .int .u64 0, .int .u64 0, .int .u64 0, .int .u64 0, .slice none 0 0] 57 (0, 0))) := Lib.hid (by simpa using blk_new (w.alloc (.cells #[.int .i64 9, .slice A l c, .int .u32 most, .bool z, .bool wd, .int .i64 n] 54)) (.cells #[.int .i64 0, .int .u64 0, .int .u64 0, .int .u64 0, .int .u64 0, .int .u64 0, .int .u64 0, .int .u64 0, .int .u64 0, .slice none 0 0] 57))
  go_enter Try.func20, Try.ntmps20
  go_wp2_with fail
  refine (Data_dead p n _ (HD.out.below HB0.out)).mono ?_
  rintro e w1 ⟨rfl, hb⟩
  have hk1 := (hb.block (w.heap.size + 1) (blk_lt HK.out)).trans HK.out
  have hc1 : ∀ o, w1.cell? ⟨w.heap.size + 1, o, none⟩ = _ := fun o => blk_cell hk1 o
  have hf1 : ∀ o, w1.frozen? ⟨w.heap.size + 1, o, none⟩ = false := fun o => blk_frozen hk1 o
  have hn1 : ¬ w1.heap.size = w.heap.size + 1 := by have := blk_lt hk1; omega
  have hl1 : w.heap.size + 1 < w1.heap.size := blk_lt hk1
  have HB1 : Hid (Below w.heap.size w w1) := Lib.hid (HB0.out.trans (hb.mono HB0.out.size))
  have HK := Lib.hid hk1
  clear hb hk1
  have HBb := Lib.hid HB1.out
  go_wp2_with fail
  have HB := Lib.hid HB1.out

  generalize hwf : World.setCell _ _ _ = wf
  have hbk : wf.heap[w.heap.size + 1]? = some (.cells #[.int .i64 0, .int .u64 0, .int .u64 0, .int .u64 0, .int .u64 0, .int .u64 0, .int .u64 0, .int .u64 0, .int .u64 0, .slice none 0 0] 57 (0, 0)) := by rw [← hwf]; exact blk_set10 HK.out
  have hbel : Below w.heap.size w wf := by rw [← hwf]; exact below_set10 HB.out (by omega)
  clear hwf
  have q0 : wf.cell? ⟨w.heap.size + 1, 0, none⟩ = some _ := (blk_cell hbk 0).trans rfl
  have q1 : wf.cell? ⟨w.heap.size + 1, 1, none⟩ = some _ := (blk_cell hbk 1).trans rfl
  have q2 : wf.cell? ⟨w.heap.size + 1, 2, none⟩ = some _ := (blk_cell hbk 2).trans rfl
  have q3 : wf.cell? ⟨w.heap.size + 1, 3, none⟩ = some _ := (blk_cell hbk 3).trans rfl
  have q4 : wf.cell? ⟨w.heap.size + 1, 4, none⟩ = some _ := (blk_cell hbk 4).trans rfl
  have q5 : wf.cell? ⟨w.heap.size + 1, 5, none⟩ = some _ := (blk_cell hbk 5).trans rfl
  have q6 : wf.cell? ⟨w.heap.size + 1, 6, none⟩ = some _ := (blk_cell hbk 6).trans rfl
  have q7 : wf.cell? ⟨w.heap.size + 1, 7, none⟩ = some _ := (blk_cell hbk 7).trans rfl
  have q8 : wf.cell? ⟨w.heap.size + 1, 8, none⟩ = some _ := (blk_cell hbk 8).trans rfl
  have q9 : wf.cell? ⟨w.heap.size + 1, 9, none⟩ = some _ := (blk_cell hbk 9).trans rfl
  have HBE := Lib.hid hbel
  clear hbk hbel
  exact bodyPost_ret (v := .agg #[.int .i64 0, .int .u64 0, .int .u64 0, .int .u64 0, .int .u64 0, .int .u64 0, .int .u64 0, .int .u64 0, .int .u64 0, .slice none 0 0]) (by simp [results, Try.results20, go_sem, q0, q1, q2, q3, q4, q5, q6, q7, q8, q9]) rfl ⟨rfl, HBE.out⟩
end Go.Proofs.Ytajdplhmbigolaa.Fra
