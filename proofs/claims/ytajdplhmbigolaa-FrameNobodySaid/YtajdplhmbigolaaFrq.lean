/- FrameNobody, walked. -/
import Derived.Test.YtajdplhmbigolaaFrp
namespace Go.Proofs.Ytajdplhmbigolaa.Fra
open Go.RowKit Go.Proofs.YtajdplhmbigolaaW.PrintWords Go.Proofs.YtajdplhmbigolaaW.PrintLast Go.Proofs.Ytajdplhmbigolaa.Octa Go.Proofs.Ytajdplhmbigolaa.Hand
set_option linter.unusedVariables false
set_option linter.unusedSimpArgs false

set_option maxHeartbeats 2000000 in
set_option maxRecDepth 100000 in
theorem FrameNobody_walk (kd most n : Int) (A : Option Addr) (l c : Nat) (z wd : Bool) (w : World) :
    Calls Try.prog 7 #[.agg #[.int .i64 kd, .slice A l c, .int .u32 most, .bool z, .bool wd, .int .i64 n]] w fun e w' => e = .returned (.bool true) ∧ Below w.heap.size w w' := by
  have HB0 : Hid (Below w.heap.size w ((w.alloc (.cells #[.int .i64 kd, .slice A l c, .int .u32 most, .bool z, .bool wd, .int .i64 n] 54)).alloc (.cells #[.int .i64 0, .slice none 0 0, .int .u64 0] 65))) := Lib.hid (below_alloc (below_alloc (Below.refl _ _) _) _)
  have KI0 : Hid (((w.alloc (.cells #[.int .i64 kd, .slice A l c, .int .u32 most, .bool z, .bool wd, .int .i64 n] 54)).alloc (.cells #[.int .i64 0, .slice none 0 0, .int .u64 0] 65)).heap[w.heap.size + 1]? = some (.cells #[.int .i64 0, .slice none 0 0, .int .u64 0] 65 (0, 0))) := Lib.hid (by simpa using blk_new (w.alloc (.cells #[.int .i64 kd, .slice A l c, .int .u32 most, .bool z, .bool wd, .int .i64 n] 54)) (.cells #[.int .i64 0, .slice none 0 0, .int .u64 0] 65))
  have KO0 : Hid (((w.alloc (.cells #[.int .i64 kd, .slice A l c, .int .u32 most, .bool z, .bool wd, .int .i64 n] 54)).alloc (.cells #[.int .i64 0, .slice none 0 0, .int .u64 0] 65)).heap[w.heap.size]? = some (.cells #[.int .i64 kd, .slice A l c, .int .u32 most, .bool z, .bool wd, .int .i64 n] 54 (0, 0))) := Lib.hid (by exact blk_alloc (blk_new w _) _)
  go_enter Try.func7, Try.ntmps7
  go_wp2_with fail
  refine (cuts_dead kd none most n A l c z wd _ .nil).mono ?_
  rintro e w1 ⟨rfl, hb⟩
  have KO1 := Lib.hid ((hb.block _ (blk_lt KO0.out)).trans KO0.out)
  have KI1 := Lib.hid ((hb.block _ (blk_lt KI0.out)).trans KI0.out)
  have HB1 := Lib.hid (below_alloc (below_then HB0.out HB0.out.size hb) (.cells #[.int .i64 0, .int .u64 0, .int .u64 0, .int .u64 0, .int .u64 0, .int .u64 0, .int .u64 0, .int .u64 0, .int .u64 0, .slice none 0 0] 57))
  clear hb
  have KO1' := Lib.hid (blk_alloc KO1.out (.cells #[.int .i64 0, .int .u64 0, .int .u64 0, .int .u64 0, .int .u64 0, .int .u64 0, .int .u64 0, .int .u64 0, .int .u64 0, .slice none 0 0] 57))
  have KI1' := Lib.hid (blk_alloc KI1.out (.cells #[.int .i64 0, .int .u64 0, .int .u64 0, .int .u64 0, .int .u64 0, .int .u64 0, .int .u64 0, .int .u64 0, .int .u64 0, .slice none 0 0] 57))
  have KA1' := Lib.hid (blk_new w1 (.cells #[.int .i64 0, .int .u64 0, .int .u64 0, .int .u64 0, .int .u64 0, .int .u64 0, .int .u64 0, .int .u64 0, .int .u64 0, .slice none 0 0] 57))
  have o1_0 : w1.cell? ⟨w.heap.size, 0, none⟩ = some _ := (blk_cell KO1.out 0).trans rfl
  have o1_1 : w1.cell? ⟨w.heap.size, 1, none⟩ = some _ := (blk_cell KO1.out 1).trans rfl
  have o1_2 : w1.cell? ⟨w.heap.size, 2, none⟩ = some _ := (blk_cell KO1.out 2).trans rfl
  have o1_3 : w1.cell? ⟨w.heap.size, 3, none⟩ = some _ := (blk_cell KO1.out 3).trans rfl
  have o1_4 : w1.cell? ⟨w.heap.size, 4, none⟩ = some _ := (blk_cell KO1.out 4).trans rfl
  have o1_5 : w1.cell? ⟨w.heap.size, 5, none⟩ = some _ := (blk_cell KO1.out 5).trans rfl
  have o1_f : ∀ i, w1.frozen? ⟨w.heap.size, i, none⟩ = false := fun i => blk_frozen KO1.out i
  have o1_n : ¬ w1.heap.size = w.heap.size := by have := blk_lt KO1.out; omega
  have o1_l : w.heap.size < w1.heap.size := blk_lt KO1.out
  go_wp2_with fail
  refine (cuts_dead kd _ most n A l c z wd _ (.zero _ KI1'.out)).mono ?_
  rintro e w2 ⟨rfl, hb⟩
  have KO2 := Lib.hid ((hb.block _ (blk_lt KO1'.out)).trans KO1'.out)
  have KI2 := Lib.hid ((hb.block _ (blk_lt KI1'.out)).trans KI1'.out)
  have KA2 : Hid (w2.heap[w1.heap.size]? = some (.cells #[.int .i64 0, .int .u64 0, .int .u64 0, .int .u64 0, .int .u64 0, .int .u64 0, .int .u64 0, .int .u64 0, .int .u64 0, .slice none 0 0] 57 (0, 0))) := Lib.hid ((hb.block _ (blk_lt KA1'.out)).trans KA1'.out)
  have HB2 := Lib.hid (below_alloc (below_then HB1.out HB1.out.size hb) (.cells #[.int .i64 0, .int .u64 0, .int .u64 0, .int .u64 0, .int .u64 0, .int .u64 0, .int .u64 0, .int .u64 0, .int .u64 0, .slice none 0 0] 57))
  clear hb
  have KI2' := Lib.hid (blk_alloc KI2.out (.cells #[.int .i64 0, .int .u64 0, .int .u64 0, .int .u64 0, .int .u64 0, .int .u64 0, .int .u64 0, .int .u64 0, .int .u64 0, .slice none 0 0] 57))
  have KB2' := Lib.hid (blk_new w2 (.cells #[.int .i64 0, .int .u64 0, .int .u64 0, .int .u64 0, .int .u64 0, .int .u64 0, .int .u64 0, .int .u64 0, .int .u64 0, .slice none 0 0] 57))
  have o2_0 : w2.cell? ⟨w.heap.size, 0, none⟩ = some _ := (blk_cell KO2.out 0).trans rfl
  have o2_1 : w2.cell? ⟨w.heap.size, 1, none⟩ = some _ := (blk_cell KO2.out 1).trans rfl
  have o2_2 : w2.cell? ⟨w.heap.size, 2, none⟩ = some _ := (blk_cell KO2.out 2).trans rfl
  have o2_3 : w2.cell? ⟨w.heap.size, 3, none⟩ = some _ := (blk_cell KO2.out 3).trans rfl
  have o2_4 : w2.cell? ⟨w.heap.size, 4, none⟩ = some _ := (blk_cell KO2.out 4).trans rfl
  have o2_5 : w2.cell? ⟨w.heap.size, 5, none⟩ = some _ := (blk_cell KO2.out 5).trans rfl
  have o2_f : ∀ i, w2.frozen? ⟨w.heap.size, i, none⟩ = false := fun i => blk_frozen KO2.out i
  have o2_n : ¬ w2.heap.size = w.heap.size := by have := blk_lt KO2.out; omega
  have o2_l : w.heap.size < w2.heap.size := blk_lt KO2.out
  have a2_0 : w2.cell? ⟨w1.heap.size, 0, none⟩ = some _ := (blk_cell KA2.out 0).trans rfl
  have a2_1 : w2.cell? ⟨w1.heap.size, 1, none⟩ = some _ := (blk_cell KA2.out 1).trans rfl
  have a2_2 : w2.cell? ⟨w1.heap.size, 2, none⟩ = some _ := (blk_cell KA2.out 2).trans rfl
  have a2_3 : w2.cell? ⟨w1.heap.size, 3, none⟩ = some _ := (blk_cell KA2.out 3).trans rfl
  have a2_4 : w2.cell? ⟨w1.heap.size, 4, none⟩ = some _ := (blk_cell KA2.out 4).trans rfl
  have a2_5 : w2.cell? ⟨w1.heap.size, 5, none⟩ = some _ := (blk_cell KA2.out 5).trans rfl
  have a2_6 : w2.cell? ⟨w1.heap.size, 6, none⟩ = some _ := (blk_cell KA2.out 6).trans rfl
  have a2_7 : w2.cell? ⟨w1.heap.size, 7, none⟩ = some _ := (blk_cell KA2.out 7).trans rfl
  have a2_8 : w2.cell? ⟨w1.heap.size, 8, none⟩ = some _ := (blk_cell KA2.out 8).trans rfl
  have a2_9 : w2.cell? ⟨w1.heap.size, 9, none⟩ = some _ := (blk_cell KA2.out 9).trans rfl
  have a2_f : ∀ i, w2.frozen? ⟨w1.heap.size, i, none⟩ = false := fun i => blk_frozen KA2.out i
  have a2_n : ¬ w2.heap.size = w1.heap.size := by have := blk_lt KA2.out; omega
  have a2_l : w1.heap.size < w2.heap.size := blk_lt KA2.out
  go_wp2_with fail
  refine (Feed_dead none _ _ .nil).mono ?_
  rintro e w' ⟨rfl, rfl⟩
  go_wp2_with fail
  refine (Feed_dead _ _ _ (.zero _ KI2'.out)).mono ?_
  rintro e w' ⟨rfl, rfl⟩
  go_wp2_with fail
  refine (Held_dead none _ .nil).mono ?_
  rintro e w' ⟨rfl, rfl⟩
  go_wp2_with fail
  refine (Held_dead _ _ (.zero _ KI2'.out)).mono ?_
  rintro e w' ⟨rfl, rfl⟩
  go_wp2_with fail
  refine (Room_dead none _ .nil).mono ?_
  rintro e w' ⟨rfl, rfl⟩
  go_wp2_with fail
  refine (Room_dead _ _ (.zero _ KI2'.out)).mono ?_
  rintro e w' ⟨rfl, rfl⟩
  go_wp2_with fail
  refine (Same_zero _).mono ?_
  rintro e w3 ⟨rfl, hb⟩
  have HB3 := Lib.hid (below_then HB2.out HB2.out.size hb)
  have KB3 : Hid (w3.heap[w2.heap.size]? = some (.cells #[.int .i64 0, .int .u64 0, .int .u64 0, .int .u64 0, .int .u64 0, .int .u64 0, .int .u64 0, .int .u64 0, .int .u64 0, .slice none 0 0] 57 (0, 0))) := Lib.hid ((hb.block _ (blk_lt KB2'.out)).trans KB2'.out)
  clear hb
  have b3_0 : w3.cell? ⟨w2.heap.size, 0, none⟩ = some _ := (blk_cell KB3.out 0).trans rfl
  have b3_1 : w3.cell? ⟨w2.heap.size, 1, none⟩ = some _ := (blk_cell KB3.out 1).trans rfl
  have b3_2 : w3.cell? ⟨w2.heap.size, 2, none⟩ = some _ := (blk_cell KB3.out 2).trans rfl
  have b3_3 : w3.cell? ⟨w2.heap.size, 3, none⟩ = some _ := (blk_cell KB3.out 3).trans rfl
  have b3_4 : w3.cell? ⟨w2.heap.size, 4, none⟩ = some _ := (blk_cell KB3.out 4).trans rfl
  have b3_5 : w3.cell? ⟨w2.heap.size, 5, none⟩ = some _ := (blk_cell KB3.out 5).trans rfl
  have b3_6 : w3.cell? ⟨w2.heap.size, 6, none⟩ = some _ := (blk_cell KB3.out 6).trans rfl
  have b3_7 : w3.cell? ⟨w2.heap.size, 7, none⟩ = some _ := (blk_cell KB3.out 7).trans rfl
  have b3_8 : w3.cell? ⟨w2.heap.size, 8, none⟩ = some _ := (blk_cell KB3.out 8).trans rfl
  have b3_9 : w3.cell? ⟨w2.heap.size, 9, none⟩ = some _ := (blk_cell KB3.out 9).trans rfl
  have b3_f : ∀ i, w3.frozen? ⟨w2.heap.size, i, none⟩ = false := fun i => blk_frozen KB3.out i
  have b3_n : ¬ w3.heap.size = w2.heap.size := by have := blk_lt KB3.out; omega
  have b3_l : w2.heap.size < w3.heap.size := blk_lt KB3.out
  go_wp2_with fail
  refine (Same_zero _).mono ?_
  rintro e w4 ⟨rfl, hb⟩
  have HB4 := Lib.hid (below_then HB3.out HB3.out.size hb)
  clear hb
  go_wp2_with fail
  refine (heads_any _).mono ?_
  rintro e w5 ⟨rfl, hb⟩
  have HB5 := Lib.hid (below_then HB4.out HB4.out.size hb)
  clear hb
  go_wp2_with fail
  go_ret
  exact ⟨rfl, HB5.out⟩
end Go.Proofs.Ytajdplhmbigolaa.Fra
