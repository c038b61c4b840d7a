/- FrameNobody, walked: cuts of any kind, and Same of two empty cuttings. -/
import Derived.Test.YtajdplhmbigolaaFro
import Derived.ChangeKeysEq
namespace Go.Proofs.Ytajdplhmbigolaa.Fra
open Go.RowKit Go.Proofs.YtajdplhmbigolaaW.PrintWords Go.Proofs.YtajdplhmbigolaaW.PrintLast Go.Proofs.Ytajdplhmbigolaa.Octa Go.Proofs.Ytajdplhmbigolaa.Hand
set_option linter.unusedVariables false
set_option linter.unusedSimpArgs false

set_option maxHeartbeats 2000000 in
set_option maxRecDepth 100000 in
theorem cuts_dead_else (kd : Int) (h2 : ¬ kd = 2) (h3 : ¬ kd = 3) (h4 : ¬ kd = 4) (h5 : ¬ kd = 5) (h6 : ¬ kd = 6) (h7 : ¬ kd = 7) (h8 : ¬ kd = 8) (h9 : ¬ kd = 9) (p : Option Addr) (most n : Int) (A : Option Addr) (l c : Nat) (z wd : Bool) (w : World) :
    Calls Try.prog 20 #[.pointer p, .agg #[.int .i64 kd, .slice A l c, .int .u32 most, .bool z, .bool wd, .int .i64 n]] w fun e w' => e = .returned (.agg #[.int .i64 0, .int .u64 0, .int .u64 0, .int .u64 0, .int .u64 0, .int .u64 0, .int .u64 0, .int .u64 0, .int .u64 0, .slice none 0 0]) ∧ Below w.heap.size w w' := by
  have HB0 : Hid (Below w.heap.size w ((w.alloc (.cells #[.int .i64 kd, .slice A l c, .int .u32 most, .bool z, .bool wd, .int .i64 n] 54)).alloc (.cells #[.int .i64 0, .int .u64 0, .int .u64 0, .int .u64 0, .int .u64 0, .int .u64 0, .int .u64 0, .int .u64 0, .int .u64 0, .slice none 0 0] 57))) := Lib.hid (below_alloc (below_alloc (Below.refl _ _) _) _)
  have HK : Hid (((w.alloc (.cells #[.int .i64 kd, .slice A l c, .int .u32 most, .bool z, .bool wd, .int .i64 n] 54)).alloc (.cells #[.int .i64 0, .int .u64 0, .int .u64 0, .int .u64 0, .int .u64 0, .int .u64 0, .int .u64 0, .int .u64 0, .int .u64 0, .slice none 0 0] 57)).heap[w.heap.size + 1]? = some (.cells #[.int .i64 0, .int .u64 0, .int .u64 0, .int .u64 0, .int .u64 0, .int .u64 0, .int .u64 0, .int .u64 0, .int .u64 0, .slice none 0 0] 57 (0, 0))) := Lib.hid (by simpa using blk_new (w.alloc (.cells #[.int .i64 kd, .slice A l c, .int .u32 most, .bool z, .bool wd, .int .i64 n] 54)) (.cells #[.int .i64 0, .int .u64 0, .int .u64 0, .int .u64 0, .int .u64 0, .int .u64 0, .int .u64 0, .int .u64 0, .int .u64 0, .slice none 0 0] 57))
  go_enter Try.func20, Try.ntmps20
  go_wp2_with fail
  generalize hwf : World.alloc (World.alloc w _) _ = wf
  have hbk : wf.heap[w.heap.size + 1]? = some (.cells #[.int .i64 0, .int .u64 0, .int .u64 0, .int .u64 0, .int .u64 0, .int .u64 0, .int .u64 0, .int .u64 0, .int .u64 0, .slice none 0 0] 57 (0, 0)) := by rw [← hwf]; exact HK.out
  have hbel : Below w.heap.size w wf := by rw [← hwf]; exact HB0.out
  clear hwf
  have q0 : wf.cell? ⟨w.heap.size + 1, 0, none⟩ = some _ := (blk_cell hbk 0).trans rfl
  have q1 : wf.cell? ⟨w.heap.size + 1, 1, none⟩ = some _ := (blk_cell hbk 1).trans rfl
  have q2 : wf.cell? ⟨w.heap.size + 1, 2, none⟩ = some _ := (blk_cell hbk 2).trans rfl
  have q3 : wf.cell? ⟨w.heap.size + 1, 3, none⟩ = some _ := (blk_cell hbk 3).trans rfl
  have q4 : wf.cell? ⟨w.heap.size + 1, 4, none⟩ = some _ := (blk_cell hbk 4).trans rfl
  have q5 : wf.cell? ⟨w.heap.size + 1, 5, none⟩ = some _ := (blk_cell hbk 5).trans rfl
  have q6 : wf.cell? ⟨w.heap.size + 1, 6, none⟩ = some _ := (blk_cell hbk 6).trans rfl
  have q7 : wf.cell? ⟨w.heap.size + 1, 7, none⟩ = some _ := (blk_cell hbk 7).trans rfl
  have q8 : wf.cell? ⟨w.heap.size + 1, 8, none⟩ = some _ := (blk_cell hbk 8).trans rfl
  have q9 : wf.cell? ⟨w.heap.size + 1, 9, none⟩ = some _ := (blk_cell hbk 9).trans rfl
  have HBE := Lib.hid hbel
  clear hbk hbel
  exact bodyPost_ret (v := .agg #[.int .i64 0, .int .u64 0, .int .u64 0, .int .u64 0, .int .u64 0, .int .u64 0, .int .u64 0, .int .u64 0, .int .u64 0, .slice none 0 0]) (by simp [results, Try.results20, go_sem, q0, q1, q2, q3, q4, q5, q6, q7, q8, q9]) rfl ⟨rfl, HBE.out⟩

theorem cuts_dead (kd : Int) (p : Option Addr) (most n : Int) (A : Option Addr) (l c : Nat) (z wd : Bool) (w : World) (h : Dead w p) :
    Calls Try.prog 20 #[.pointer p, .agg #[.int .i64 kd, .slice A l c, .int .u32 most, .bool z, .bool wd, .int .i64 n]] w fun e w' => e = .returned (.agg #[.int .i64 0, .int .u64 0, .int .u64 0, .int .u64 0, .int .u64 0, .int .u64 0, .int .u64 0, .int .u64 0, .int .u64 0, .slice none 0 0]) ∧ Below w.heap.size w w' := by
  by_cases h2 : kd = 2
  · rw [h2]; exact cuts_dead_2 p most n A l c z wd w h
  by_cases h3 : kd = 3
  · rw [h3]; exact cuts_dead_3 p most n A l c z wd w h
  by_cases h4 : kd = 4
  · rw [h4]; exact cuts_dead_4 p most n A l c z wd w h
  by_cases h5 : kd = 5
  · rw [h5]; exact cuts_dead_5 p most n A l c z wd w h
  by_cases h6 : kd = 6
  · rw [h6]; exact cuts_dead_6 p most n A l c z wd w h
  by_cases h7 : kd = 7
  · rw [h7]; exact cuts_dead_7 p most n A l c z wd w h
  by_cases h8 : kd = 8
  · rw [h8]; exact cuts_dead_8 p most n A l c z wd w h
  by_cases h9 : kd = 9
  · rw [h9]; exact cuts_dead_9 p most n A l c z wd w h
  exact cuts_dead_else kd h2 h3 h4 h5 h6 h7 h8 h9 p most n A l c z wd w

set_option maxRecDepth 200000 in
theorem eqN (W : World) : (Op.equalIn 10000 55 (.agg #[.int .u64 0, .int .u64 0, .int .u64 0, .int .u64 0, .int .u64 0, .int .u64 0, .int .u64 0, .int .u64 0]) (.agg #[.int .u64 0, .int .u64 0, .int .u64 0, .int .u64 0, .int .u64 0, .int .u64 0, .int .u64 0, .int .u64 0])).run Try.prog W = .ok true W := by
  rw [show (10000 : Nat) = 9999 + 1 from rfl, run_equalIn_array (n := 8) (e := 30) W 9999 _ _ (by rfl) (by rfl)]
  simp [List.range_succ, Op.eqItems, go_sem, show Program.cellsOf Try.prog 30 = 1 from rfl]
set_option maxHeartbeats 2000000 in
set_option maxRecDepth 100000 in
theorem Same_zero (w : World) : Calls Try.prog 22 #[.agg #[.int .i64 0, .int .u64 0, .int .u64 0, .int .u64 0, .int .u64 0, .int .u64 0, .int .u64 0, .int .u64 0, .int .u64 0, .slice none 0 0], .agg #[.int .i64 0, .int .u64 0, .int .u64 0, .int .u64 0, .int .u64 0, .int .u64 0, .int .u64 0, .int .u64 0, .int .u64 0, .slice none 0 0]] w fun e w' => e = .returned (.bool true) ∧ Below w.heap.size w w' := by
  have HB : Hid (Below w.heap.size w ((w.alloc (.cells #[.int .i64 0, .int .u64 0, .int .u64 0, .int .u64 0, .int .u64 0, .int .u64 0, .int .u64 0, .int .u64 0, .int .u64 0, .slice none 0 0] 57)).alloc (.cells #[.int .i64 0, .int .u64 0, .int .u64 0, .int .u64 0, .int .u64 0, .int .u64 0, .int .u64 0, .int .u64 0, .int .u64 0, .slice none 0 0] 57))) := Lib.hid (below_alloc (below_alloc (Below.refl _ _) _) _)
  go_enter Try.func22, Try.ntmps22
  go_wp2_with fail
  simp only [eqN, Result.andThen_ok]
  go_wp2_with fail
  trace_state
  refine (Same_true none none 0 0 [] _ ?_ ?_).mono ?_
  · exact C_iff.2 ⟨by simp, by decide, fun h => absurd h (by simp)⟩
  · exact C_iff.2 ⟨by simp, by decide, fun h => absurd h (by simp)⟩
  rintro e w1 ⟨rfl, k, rfl⟩
  go_wp2_with fail
  trace_state
  exact bodyPost_ret (v := .bool true) (by simp [results, Try.results22, go_sem]) rfl ⟨rfl, HB.out.os, HB.out.tape, HB.out.output, HB.out.size, HB.out.block⟩
end Go.Proofs.Ytajdplhmbigolaa.Fra
