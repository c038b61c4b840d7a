/- An inbox that no call made: every method's answer. -/
import Derived.Test.YtajdplhmbigolaaFrf
namespace Go.Proofs.Ytajdplhmbigolaa.Fra
open Go.RowKit Go.Proofs.YtajdplhmbigolaaW.PrintWords Go.Proofs.YtajdplhmbigolaaW.PrintLast Go.Proofs.Ytajdplhmbigolaa.Octa Go.Proofs.Ytajdplhmbigolaa.Hand
set_option linter.unusedVariables false

/-- An inbox that no call made: none, or a zero one. -/
inductive Dead (w : World) : Option Addr → Prop where
  | nil : Dead w none
  | zero (g : Nat) (h : w.heap[g]? = some (.cells #[.int .i64 0, .slice none 0 0, .int .u64 0] 65 (0, 0))) : Dead w (some ⟨g, 0, none⟩)
theorem Dead.below {w w' : World} {p : Option Addr} (h : Dead w p) (hb : Below w.heap.size w w') : Dead w' p := by
  cases h with
  | nil => exact .nil
  | zero g h => exact .zero g ((hb.block g (blk_lt h)).trans h)

theorem made_dead (p : Option Addr) (w : World) (h : Dead w p) : Calls Try.prog 27 #[.pointer p] w fun e w' => e = .returned (.bool false) ∧ w = w' := by
  cases h with
  | nil =>
    go_enter Try.func27, Try.ntmps27
    go_wp2
    go_ret
    exact ⟨rfl, rfl⟩
  | zero g hb =>
    have hc : w.cell? ⟨g, 0, none⟩ = some (.int .i64 0) := (blk_cell hb 0).trans rfl
    clear hb
    go_enter Try.func27, Try.ntmps27
    go_wp2
    go_ret
    exact ⟨rfl, rfl⟩
theorem Held_dead (p : Option Addr) (w : World) (h : Dead w p) : Calls Try.prog 11 #[.pointer p] w fun e w' => e = .returned (.int .i64 0) ∧ w = w' := by
  go_enter Try.func11, Try.ntmps11
  go_wp2_with (go_at_call 27; refine (made_dead p w h).mono ?_; rintro e w' ⟨rfl, rfl⟩)
  go_ret
  exact ⟨rfl, rfl⟩
theorem Room_dead (p : Option Addr) (w : World) (h : Dead w p) : Calls Try.prog 12 #[.pointer p] w fun e w' => e = .returned (.int .i64 0) ∧ w = w' := by
  go_enter Try.func12, Try.ntmps12
  go_wp2_with (go_at_call 27; refine (made_dead p w h).mono ?_; rintro e w' ⟨rfl, rfl⟩)
  go_ret
  exact ⟨rfl, rfl⟩
theorem Feed_dead (p : Option Addr) (v : Value) (w : World) (h : Dead w p) : Calls Try.prog 17 #[.pointer p, v] w fun e w' => e = .returned (.int .i64 0) ∧ w = w' := by
  go_enter Try.func17, Try.ntmps17
  go_wp2_with (go_at_call 27; refine (made_dead p w h).mono ?_; rintro e w' ⟨rfl, rfl⟩)
  go_ret
  exact ⟨rfl, rfl⟩

/-- A bool as a number. -/
def tnum (b : Bool) : Int := if b then 1 else 0
theorem tnum_ok (b : Bool) : 0 ≤ tnum b ∧ tnum b ≤ 1 := by cases b <;> decide
theorem truth_any (b : Bool) (w : World) : Calls Try.prog 79 #[.bool b] w fun e w' => e = .returned (.int .u64 (tnum b)) ∧ w' = w := by
  cases b
  all_goals
    go_enter Try.func79, Try.ntmps79
    go_wp2
    go_ret
    exact ⟨rfl, rfl⟩


set_option maxHeartbeats 1000000 in
set_option maxRecDepth 100000 in
theorem of_Greeting_dead (p : Option Addr) (cs : Array Value) (w : World) (h : Dead w p) : Calls Try.prog 78 #[.agg #[.func (Fn.func 77) #[] cs], .pointer p] w fun e w' => e = .returned (.tuple #[.agg #[.int .u16 0], .int .i64 0]) ∧ Below w.heap.size w w' := by
  have HD := Lib.hid h
  clear h
  go_enter Try.func78, Try.ntmps78
  go_wp2_with (go_at_call 27; refine (made_dead p _ (HD.out.below (below_alloc (below_alloc (below_alloc (Below.refl w.heap.size w) _) _) _))).mono ?_; rintro e w' ⟨rfl, rfl⟩)
  exact bodyPost_ret (v := .tuple #[.agg #[.int .u16 0], .int .i64 0]) (by simp [results, Try.results78, go_sem]) rfl ⟨rfl, below_alloc (below_alloc (below_alloc (Below.refl w.heap.size w) _) _) _⟩

set_option maxHeartbeats 1000000 in
set_option maxRecDepth 100000 in
theorem Greeting_dead (p : Option Addr)  (w : World) (h : Dead w p) : Calls Try.prog 41 #[.pointer p] w fun e w' => e = .returned (.tuple #[.agg #[.int .u16 0], .int .i64 0]) ∧ Below w.heap.size w w' := by
  have HD := Lib.hid h
  clear h
  go_enter Try.func41, Try.ntmps41
  go_wp2_with (go_at_call 78; refine (of_Greeting_dead p _ _ (HD.out.below (below_alloc (Below.refl w.heap.size w) _))).mono ?_; rintro e w1 ⟨rfl, hb⟩; (have hc0 : ∀ o, w1.cell? ⟨w.heap.size, o, none⟩ = _ := fun o => (below_rules hb).1 (w.heap.size) o (by first | (simp; done) | (simp; omega))); (have hf0 : ∀ o, w1.frozen? ⟨w.heap.size, o, none⟩ = _ := fun o => (below_rules hb).2 (w.heap.size) o (by first | (simp; done) | (simp; omega))); (try simp only [go_sem] at hc0); (try simp only [go_sem] at hf0); (have HB : Hid (Below w.heap.size w w1) := Lib.hid (Below.trans (below_alloc (Below.refl w.heap.size w) _) (hb.mono (by first | (simp; done) | (simp; omega))))); clear hb)
  refine bodyPost_ret (v := .tuple #[.agg #[.int .u16 0], .int .i64 0]) (by simp [results, Try.results41, go_sem, *]) rfl ⟨rfl, ?_⟩
  repeat (first | (with_reducible exact HB.out) | refine Below.setCell ?_ (by first | (simp; done) | (simp; omega)) _)

set_option maxHeartbeats 1000000 in
set_option maxRecDepth 100000 in
theorem of_Flags_dead (p : Option Addr) (cs : Array Value) (w : World) (h : Dead w p) : Calls Try.prog 40 #[.agg #[.func (Fn.func 39) #[] cs], .pointer p] w fun e w' => e = .returned (.tuple #[.int .u32 0, .int .i64 0]) ∧ Below w.heap.size w w' := by
  have HD := Lib.hid h
  clear h
  go_enter Try.func40, Try.ntmps40
  go_wp2_with (go_at_call 27; refine (made_dead p _ (HD.out.below (below_alloc (Below.refl w.heap.size w) _))).mono ?_; rintro e w' ⟨rfl, rfl⟩)
  go_ret2
  exact ⟨rfl, below_alloc (Below.refl w.heap.size w) _⟩

set_option maxHeartbeats 1000000 in
set_option maxRecDepth 100000 in
theorem Flags_dead (p : Option Addr)  (w : World) (h : Dead w p) : Calls Try.prog 19 #[.pointer p] w fun e w' => e = .returned (.tuple #[.int .u32 0, .int .i64 0]) ∧ Below w.heap.size w w' := by
  have HD := Lib.hid h
  clear h
  go_enter Try.func19, Try.ntmps19
  go_wp2_with (go_at_call 40; refine (of_Flags_dead p _ _ (HD.out.below (Below.refl w.heap.size w))).mono ?_; rintro e w1 ⟨rfl, hb⟩; (have HB : Hid (Below w.heap.size w w1) := Lib.hid (Below.trans (Below.refl w.heap.size w) (hb.mono (by first | (simp; done) | (simp; omega))))); clear hb)
  go_ret2
  exact ⟨rfl, HB.out⟩

set_option maxHeartbeats 1000000 in
set_option maxRecDepth 100000 in
theorem of_Option_dead (p : Option Addr) (cs : Array Value) (w : World) (h : Dead w p) : Calls Try.prog 38 #[.agg #[.func (Fn.func 36) #[] cs], .pointer p] w fun e w' => e = .returned (.tuple #[.agg #[.int .u32 0, .int .u32 0, .bool false, .slice none 0 0], .int .i64 0]) ∧ Below w.heap.size w w' := by
  have HD := Lib.hid h
  clear h
  go_enter Try.func38, Try.ntmps38
  go_wp2_with (go_at_call 27; refine (made_dead p _ (HD.out.below (below_alloc (below_alloc (below_alloc (Below.refl w.heap.size w) _) _) _))).mono ?_; rintro e w' ⟨rfl, rfl⟩)
  exact bodyPost_ret (v := .tuple #[.agg #[.int .u32 0, .int .u32 0, .bool false, .slice none 0 0], .int .i64 0]) (by simp [results, Try.results38, go_sem]) rfl ⟨rfl, below_alloc (below_alloc (below_alloc (Below.refl w.heap.size w) _) _) _⟩

set_option maxHeartbeats 1000000 in
set_option maxRecDepth 100000 in
theorem Option_dead (p : Option Addr) (x0 : Int) (w : World) (h : Dead w p) : Calls Try.prog 18 #[.pointer p, .int .u32 x0] w fun e w' => e = .returned (.tuple #[.agg #[.int .u32 0, .int .u32 0, .bool false, .slice none 0 0], .int .i64 0]) ∧ Below w.heap.size w w' := by
  have HD := Lib.hid h
  clear h
  go_enter Try.func18, Try.ntmps18
  go_wp2_with (go_at_call 38; refine (of_Option_dead p _ _ (HD.out.below (below_alloc (below_alloc (below_alloc (Below.refl w.heap.size w) _) _) _))).mono ?_; rintro e w1 ⟨rfl, hb⟩; (have hc0 : ∀ o, w1.cell? ⟨w.heap.size + 1 + 1, o, none⟩ = _ := fun o => (below_rules hb).1 (w.heap.size + 1 + 1) o (by first | (simp; done) | (simp; omega))); (have hf0 : ∀ o, w1.frozen? ⟨w.heap.size + 1 + 1, o, none⟩ = _ := fun o => (below_rules hb).2 (w.heap.size + 1 + 1) o (by first | (simp; done) | (simp; omega))); (try simp only [go_sem] at hc0); (try simp only [go_sem] at hf0); (have HB : Hid (Below w.heap.size w w1) := Lib.hid (Below.trans (below_alloc (below_alloc (below_alloc (Below.refl w.heap.size w) _) _) _) (hb.mono (by first | (simp; done) | (simp; omega))))); clear hb)
  refine bodyPost_ret (v := .tuple #[.agg #[.int .u32 0, .int .u32 0, .bool false, .slice none 0 0], .int .i64 0]) (by simp [results, Try.results18, go_sem, *]) rfl ⟨rfl, ?_⟩
  repeat (first | (with_reducible exact HB.out) | refine Below.setCell ?_ (by first | (simp; done) | (simp; omega)) _)

set_option maxHeartbeats 1000000 in
set_option maxRecDepth 100000 in
theorem of_OptionReply_dead (p : Option Addr) (cs : Array Value) (w : World) (h : Dead w p) : Calls Try.prog 82 #[.agg #[.func (Fn.func 80) #[] cs], .pointer p] w fun e w' => e = .returned (.tuple #[.agg #[.int .u32 0, .int .u32 0, .slice none 0 0], .int .i64 0]) ∧ Below w.heap.size w w' := by
  have HD := Lib.hid h
  clear h
  go_enter Try.func82, Try.ntmps82
  go_wp2_with (go_at_call 27; refine (made_dead p _ (HD.out.below (below_alloc (below_alloc (below_alloc (Below.refl w.heap.size w) _) _) _))).mono ?_; rintro e w' ⟨rfl, rfl⟩)
  exact bodyPost_ret (v := .tuple #[.agg #[.int .u32 0, .int .u32 0, .slice none 0 0], .int .i64 0]) (by simp [results, Try.results82, go_sem]) rfl ⟨rfl, below_alloc (below_alloc (below_alloc (Below.refl w.heap.size w) _) _) _⟩

set_option maxHeartbeats 1000000 in
set_option maxRecDepth 100000 in
theorem OptionReply_dead (p : Option Addr) (x0 : Int) (w : World) (h : Dead w p) : Calls Try.prog 43 #[.pointer p, .int .u32 x0] w fun e w' => e = .returned (.tuple #[.agg #[.int .u32 0, .int .u32 0, .slice none 0 0], .int .i64 0]) ∧ Below w.heap.size w w' := by
  have HD := Lib.hid h
  clear h
  go_enter Try.func43, Try.ntmps43
  go_wp2_with (go_at_call 82; refine (of_OptionReply_dead p _ _ (HD.out.below (below_alloc (below_alloc (Below.refl w.heap.size w) _) _))).mono ?_; rintro e w1 ⟨rfl, hb⟩; (have hc0 : ∀ o, w1.cell? ⟨w.heap.size + 1, o, none⟩ = _ := fun o => (below_rules hb).1 (w.heap.size + 1) o (by first | (simp; done) | (simp; omega))); (have hf0 : ∀ o, w1.frozen? ⟨w.heap.size + 1, o, none⟩ = _ := fun o => (below_rules hb).2 (w.heap.size + 1) o (by first | (simp; done) | (simp; omega))); (try simp only [go_sem] at hc0); (try simp only [go_sem] at hf0); (have HB : Hid (Below w.heap.size w w1) := Lib.hid (Below.trans (below_alloc (below_alloc (Below.refl w.heap.size w) _) _) (hb.mono (by first | (simp; done) | (simp; omega))))); clear hb)
  refine bodyPost_ret (v := .tuple #[.agg #[.int .u32 0, .int .u32 0, .slice none 0 0], .int .i64 0]) (by simp [results, Try.results43, go_sem, *]) rfl ⟨rfl, ?_⟩
  repeat (first | (with_reducible exact HB.out) | refine Below.setCell ?_ (by first | (simp; done) | (simp; omega)) _)

set_option maxHeartbeats 1000000 in
set_option maxRecDepth 100000 in
theorem of_ExportReply_dead (p : Option Addr) (cs : Array Value) (w : World) (h : Dead w p) : Calls Try.prog 85 #[.agg #[.func (Fn.func 83) #[] cs], .pointer p] w fun e w' => e = .returned (.tuple #[.agg #[.int .u64 0, .int .u16 0], .int .i64 0]) ∧ Below w.heap.size w w' := by
  have HD := Lib.hid h
  clear h
  go_enter Try.func85, Try.ntmps85
  go_wp2_with (go_at_call 27; refine (made_dead p _ (HD.out.below (below_alloc (below_alloc (below_alloc (Below.refl w.heap.size w) _) _) _))).mono ?_; rintro e w' ⟨rfl, rfl⟩)
  exact bodyPost_ret (v := .tuple #[.agg #[.int .u64 0, .int .u16 0], .int .i64 0]) (by simp [results, Try.results85, go_sem]) rfl ⟨rfl, below_alloc (below_alloc (below_alloc (Below.refl w.heap.size w) _) _) _⟩

set_option maxHeartbeats 1000000 in
set_option maxRecDepth 100000 in
theorem ExportReply_dead (p : Option Addr) (x0 : Bool) (w : World) (h : Dead w p) : Calls Try.prog 45 #[.pointer p, .bool x0] w fun e w' => e = .returned (.tuple #[.agg #[.int .u64 0, .int .u16 0], .int .i64 0]) ∧ Below w.heap.size w w' := by
  have HD := Lib.hid h
  clear h
  go_enter Try.func45, Try.ntmps45
  go_wp2_with (go_at_call 85; refine (of_ExportReply_dead p _ _ (HD.out.below (below_alloc (below_alloc (Below.refl w.heap.size w) _) _))).mono ?_; rintro e w1 ⟨rfl, hb⟩; (have hc0 : ∀ o, w1.cell? ⟨w.heap.size + 1, o, none⟩ = _ := fun o => (below_rules hb).1 (w.heap.size + 1) o (by first | (simp; done) | (simp; omega))); (have hf0 : ∀ o, w1.frozen? ⟨w.heap.size + 1, o, none⟩ = _ := fun o => (below_rules hb).2 (w.heap.size + 1) o (by first | (simp; done) | (simp; omega))); (try simp only [go_sem] at hc0); (try simp only [go_sem] at hf0); (have HB : Hid (Below w.heap.size w w1) := Lib.hid (Below.trans (below_alloc (below_alloc (Below.refl w.heap.size w) _) _) (hb.mono (by first | (simp; done) | (simp; omega))))); clear hb)
  refine bodyPost_ret (v := .tuple #[.agg #[.int .u64 0, .int .u16 0], .int .i64 0]) (by simp [results, Try.results45, go_sem, *]) rfl ⟨rfl, ?_⟩
  repeat (first | (with_reducible exact HB.out) | refine Below.setCell ?_ (by first | (simp; done) | (simp; omega)) _)

set_option maxHeartbeats 1000000 in
set_option maxRecDepth 100000 in
theorem of_Request_dead (p : Option Addr) (cs : Array Value) (w : World) (h : Dead w p) : Calls Try.prog 88 #[.agg #[.func (Fn.func 86) #[] cs], .pointer p] w fun e w' => e = .returned (.tuple #[.agg #[.int .u16 0, .int .u16 0, .int .u64 0, .int .u64 0, .int .u64 0, .slice none 0 0], .int .i64 0]) ∧ Below w.heap.size w w' := by
  have HD := Lib.hid h
  clear h
  go_enter Try.func88, Try.ntmps88
  go_wp2_with (go_at_call 27; refine (made_dead p _ (HD.out.below (below_alloc (below_alloc (below_alloc (Below.refl w.heap.size w) _) _) _))).mono ?_; rintro e w' ⟨rfl, rfl⟩)
  exact bodyPost_ret (v := .tuple #[.agg #[.int .u16 0, .int .u16 0, .int .u64 0, .int .u64 0, .int .u64 0, .slice none 0 0], .int .i64 0]) (by simp [results, Try.results88, go_sem]) rfl ⟨rfl, below_alloc (below_alloc (below_alloc (Below.refl w.heap.size w) _) _) _⟩

set_option maxHeartbeats 1000000 in
set_option maxRecDepth 100000 in
theorem Request_dead (p : Option Addr) (x0 : Int) (x1 : Bool) (w : World) (h : Dead w p) : Calls Try.prog 46 #[.pointer p, .int .u32 x0, .bool x1] w fun e w' => e = .returned (.tuple #[.agg #[.int .u16 0, .int .u16 0, .int .u64 0, .int .u64 0, .int .u64 0, .slice none 0 0], .int .i64 0]) ∧ Below w.heap.size w w' := by
  have HD := Lib.hid h
  clear h
  go_enter Try.func46, Try.ntmps46
  go_wp2_with (go_at_call 88; refine (of_Request_dead p _ _ (HD.out.below (below_alloc (below_alloc (below_alloc (Below.refl w.heap.size w) _) _) _))).mono ?_; rintro e w1 ⟨rfl, hb⟩; (have hc0 : ∀ o, w1.cell? ⟨w.heap.size + 1 + 1, o, none⟩ = _ := fun o => (below_rules hb).1 (w.heap.size + 1 + 1) o (by first | (simp; done) | (simp; omega))); (have hf0 : ∀ o, w1.frozen? ⟨w.heap.size + 1 + 1, o, none⟩ = _ := fun o => (below_rules hb).2 (w.heap.size + 1 + 1) o (by first | (simp; done) | (simp; omega))); (try simp only [go_sem] at hc0); (try simp only [go_sem] at hf0); (have HB : Hid (Below w.heap.size w w1) := Lib.hid (Below.trans (below_alloc (below_alloc (below_alloc (Below.refl w.heap.size w) _) _) _) (hb.mono (by first | (simp; done) | (simp; omega))))); clear hb)
  refine bodyPost_ret (v := .tuple #[.agg #[.int .u16 0, .int .u16 0, .int .u64 0, .int .u64 0, .int .u64 0, .slice none 0 0], .int .i64 0]) (by simp [results, Try.results46, go_sem, *]) rfl ⟨rfl, ?_⟩
  repeat (first | (with_reducible exact HB.out) | refine Below.setCell ?_ (by first | (simp; done) | (simp; omega)) _)

set_option maxHeartbeats 1000000 in
set_option maxRecDepth 100000 in
theorem of_Reply_dead (p : Option Addr) (cs : Array Value) (w : World) (h : Dead w p) : Calls Try.prog 92 #[.agg #[.func (Fn.func 89) #[] cs], .pointer p] w fun e w' => e = .returned (.tuple #[.agg #[.bool false, .int .u32 0, .int .u64 0, .int .u16 0, .int .u16 0, .int .u64 0, .int .u64 0, .slice none 0 0], .int .i64 0]) ∧ Below w.heap.size w w' := by
  have HD := Lib.hid h
  clear h
  go_enter Try.func92, Try.ntmps92
  go_wp2_with (go_at_call 27; refine (made_dead p _ (HD.out.below (below_alloc (below_alloc (below_alloc (Below.refl w.heap.size w) _) _) _))).mono ?_; rintro e w' ⟨rfl, rfl⟩)
  exact bodyPost_ret (v := .tuple #[.agg #[.bool false, .int .u32 0, .int .u64 0, .int .u16 0, .int .u16 0, .int .u64 0, .int .u64 0, .slice none 0 0], .int .i64 0]) (by simp [results, Try.results92, go_sem]) rfl ⟨rfl, below_alloc (below_alloc (below_alloc (Below.refl w.heap.size w) _) _) _⟩

set_option maxHeartbeats 1000000 in
set_option maxRecDepth 100000 in
theorem Reply_dead (p : Option Addr) (x0 : Int) (x1 : Bool) (w : World) (h : Dead w p) : Calls Try.prog 48 #[.pointer p, .int .u32 x0, .bool x1] w fun e w' => e = .returned (.tuple #[.agg #[.bool false, .int .u32 0, .int .u64 0, .int .u16 0, .int .u16 0, .int .u64 0, .int .u64 0, .slice none 0 0], .int .i64 0]) ∧ Below w.heap.size w w' := by
  have HD := Lib.hid h
  clear h
  go_enter Try.func48, Try.ntmps48
  go_wp2_with (go_at_call 92; refine (of_Reply_dead p _ _ (HD.out.below (below_alloc (below_alloc (below_alloc (Below.refl w.heap.size w) _) _) _))).mono ?_; rintro e w1 ⟨rfl, hb⟩; (have hc0 : ∀ o, w1.cell? ⟨w.heap.size + 1 + 1, o, none⟩ = _ := fun o => (below_rules hb).1 (w.heap.size + 1 + 1) o (by first | (simp; done) | (simp; omega))); (have hf0 : ∀ o, w1.frozen? ⟨w.heap.size + 1 + 1, o, none⟩ = _ := fun o => (below_rules hb).2 (w.heap.size + 1 + 1) o (by first | (simp; done) | (simp; omega))); (try simp only [go_sem] at hc0); (try simp only [go_sem] at hf0); (have HB : Hid (Below w.heap.size w w1) := Lib.hid (Below.trans (below_alloc (below_alloc (below_alloc (Below.refl w.heap.size w) _) _) _) (hb.mono (by first | (simp; done) | (simp; omega))))); clear hb)
  refine bodyPost_ret (v := .tuple #[.agg #[.bool false, .int .u32 0, .int .u64 0, .int .u16 0, .int .u16 0, .int .u64 0, .int .u64 0, .slice none 0 0], .int .i64 0]) (by simp [results, Try.results48, go_sem, *]) rfl ⟨rfl, ?_⟩
  repeat (first | (with_reducible exact HB.out) | refine Below.setCell ?_ (by first | (simp; done) | (simp; omega)) _)

set_option maxHeartbeats 1000000 in
set_option maxRecDepth 100000 in
theorem of_Data_dead (p : Option Addr) (cs : Array Value) (w : World) (h : Dead w p) : Calls Try.prog 94 #[.agg #[.func (Fn.func 93) #[] cs], .pointer p] w fun e w' => e = .returned (.tuple #[.slice none 0 0, .int .i64 0]) ∧ Below w.heap.size w w' := by
  have HD := Lib.hid h
  clear h
  go_enter Try.func94, Try.ntmps94
  go_wp2_with (go_at_call 27; refine (made_dead p _ (HD.out.below (below_alloc (Below.refl w.heap.size w) _))).mono ?_; rintro e w' ⟨rfl, rfl⟩)
  go_ret2
  exact ⟨rfl, below_alloc (Below.refl w.heap.size w) _⟩

set_option maxHeartbeats 1000000 in
set_option maxRecDepth 100000 in
theorem Data_dead (p : Option Addr) (x0 : Int) (w : World) (h : Dead w p) : Calls Try.prog 50 #[.pointer p, .int .i64 x0] w fun e w' => e = .returned (.tuple #[.slice none 0 0, .int .i64 0]) ∧ Below w.heap.size w w' := by
  have HD := Lib.hid h
  clear h
  go_enter Try.func50, Try.ntmps50
  go_wp2_with (go_at_call 94; refine (of_Data_dead p _ _ (HD.out.below (below_alloc (Below.refl w.heap.size w) _))).mono ?_; rintro e w1 ⟨rfl, hb⟩; (have HB : Hid (Below w.heap.size w w1) := Lib.hid (Below.trans (below_alloc (Below.refl w.heap.size w) _) (hb.mono (by first | (simp; done) | (simp; omega))))); clear hb)
  go_ret2
  exact ⟨rfl, HB.out⟩

set_option maxHeartbeats 1000000 in
set_option maxRecDepth 100000 in
theorem ofOption_any (x0 : Int) (x1 : Int) (x2 : Bool) (A : Option Addr) (n k : Nat) (cut : Int) (h0 : 0 ≤ x0 ∧ x0 ≤ 4294967295) (h1 : 0 ≤ x1 ∧ x1 ≤ 4294967295) (w : World) : Calls Try.prog 42 #[.agg #[.int .u32 x0, .int .u32 x1, .bool x2, .slice A n k], .int .i64 cut] w fun e w' => e = .returned (.agg #[.int .i64 cut, .int .u64 x0, .int .u64 x1, .int .u64 (tnum x2), .int .u64 0, .int .u64 0, .int .u64 0, .int .u64 0, .int .u64 0, .slice A n k]) ∧ Below w.heap.size w w' := by
  have w0 : IntKind.u64.wrap x0 = x0 := by rw [IntKind.wrap_u64]; omega
  have w1 : IntKind.u64.wrap x1 = x1 := by rw [IntKind.wrap_u64]; omega
  go_enter Try.func42, Try.ntmps42
  go_wp2_with fail
  go_region_held3 (fun w' => w'.cell? ⟨w.heap.size, 0, none⟩ = some (.int .u32 x0) ∧ w'.cell? ⟨w.heap.size, 1, none⟩ = some (.int .u32 x1) ∧ w'.cell? ⟨w.heap.size, 2, none⟩ = some (.bool x2) ∧ w'.cell? ⟨w.heap.size, 3, none⟩ = some (.slice A n k)) (go_keep)
    (first | (go_at_call 79; refine (truth_any _ _).mono ?_; rintro e w' ⟨rfl, rfl⟩))
  all_goals
    go_wp2_with fail
    exact bodyPost_ret (v := .agg #[.int .i64 cut, .int .u64 x0, .int .u64 x1, .int .u64 (tnum x2), .int .u64 0, .int .u64 0, .int .u64 0, .int .u64 0, .int .u64 0, .slice A n k]) (by simp [results, Try.results42, go_sem, *]) rfl ⟨rfl, by repeat (first | exact Below.refl _ _ | refine below_drew ?_ | refine below_alloc ?_ _)⟩

set_option maxHeartbeats 1000000 in
set_option maxRecDepth 100000 in
theorem ofReply_any (x0 : Int) (x1 : Int) (A : Option Addr) (n k : Nat) (cut : Int) (h0 : 0 ≤ x0 ∧ x0 ≤ 4294967295) (h1 : 0 ≤ x1 ∧ x1 ≤ 4294967295) (w : World) : Calls Try.prog 44 #[.agg #[.int .u32 x0, .int .u32 x1, .slice A n k], .int .i64 cut] w fun e w' => e = .returned (.agg #[.int .i64 cut, .int .u64 x0, .int .u64 x1, .int .u64 0, .int .u64 0, .int .u64 0, .int .u64 0, .int .u64 0, .int .u64 0, .slice A n k]) ∧ Below w.heap.size w w' := by
  have w0 : IntKind.u64.wrap x0 = x0 := by rw [IntKind.wrap_u64]; omega
  have w1 : IntKind.u64.wrap x1 = x1 := by rw [IntKind.wrap_u64]; omega
  go_enter Try.func44, Try.ntmps44
  go_wp2_with fail
  skip
  all_goals
    go_wp2_with fail
    exact bodyPost_ret (v := .agg #[.int .i64 cut, .int .u64 x0, .int .u64 x1, .int .u64 0, .int .u64 0, .int .u64 0, .int .u64 0, .int .u64 0, .int .u64 0, .slice A n k]) (by simp [results, Try.results44, go_sem, *]) rfl ⟨rfl, by repeat (first | exact Below.refl _ _ | refine below_drew ?_ | refine below_alloc ?_ _)⟩

set_option maxHeartbeats 1000000 in
set_option maxRecDepth 100000 in
theorem ofRequest_any (x0 : Int) (x1 : Int) (x2 : Int) (x3 : Int) (x4 : Int) (A : Option Addr) (n k : Nat) (cut : Int) (h0 : 0 ≤ x0 ∧ x0 ≤ 65535) (h1 : 0 ≤ x1 ∧ x1 ≤ 65535) (w : World) : Calls Try.prog 47 #[.agg #[.int .u16 x0, .int .u16 x1, .int .u64 x2, .int .u64 x3, .int .u64 x4, .slice A n k], .int .i64 cut] w fun e w' => e = .returned (.agg #[.int .i64 cut, .int .u64 x0, .int .u64 x1, .int .u64 x2, .int .u64 x3, .int .u64 x4, .int .u64 0, .int .u64 0, .int .u64 0, .slice A n k]) ∧ Below w.heap.size w w' := by
  have w0 : IntKind.u64.wrap x0 = x0 := by rw [IntKind.wrap_u64]; omega
  have w1 : IntKind.u64.wrap x1 = x1 := by rw [IntKind.wrap_u64]; omega
  go_enter Try.func47, Try.ntmps47
  go_wp2_with fail
  skip
  all_goals
    go_wp2_with fail
    exact bodyPost_ret (v := .agg #[.int .i64 cut, .int .u64 x0, .int .u64 x1, .int .u64 x2, .int .u64 x3, .int .u64 x4, .int .u64 0, .int .u64 0, .int .u64 0, .slice A n k]) (by simp [results, Try.results47, go_sem, *]) rfl ⟨rfl, by repeat (first | exact Below.refl _ _ | refine below_drew ?_ | refine below_alloc ?_ _)⟩

set_option maxHeartbeats 1000000 in
set_option maxRecDepth 100000 in
theorem ofAnswer_any (x0 : Bool) (x1 : Int) (x2 : Int) (x3 : Int) (x4 : Int) (x5 : Int) (x6 : Int) (A : Option Addr) (n k : Nat) (cut : Int) (h1 : 0 ≤ x1 ∧ x1 ≤ 4294967295) (h3 : 0 ≤ x3 ∧ x3 ≤ 65535) (h4 : 0 ≤ x4 ∧ x4 ≤ 65535) (w : World) : Calls Try.prog 49 #[.agg #[.bool x0, .int .u32 x1, .int .u64 x2, .int .u16 x3, .int .u16 x4, .int .u64 x5, .int .u64 x6, .slice A n k], .int .i64 cut] w fun e w' => e = .returned (.agg #[.int .i64 cut, .int .u64 (tnum x0), .int .u64 x1, .int .u64 x2, .int .u64 x3, .int .u64 x4, .int .u64 x5, .int .u64 x6, .int .u64 0, .slice A n k]) ∧ Below w.heap.size w w' := by
  have w1 : IntKind.u64.wrap x1 = x1 := by rw [IntKind.wrap_u64]; omega
  have w3 : IntKind.u64.wrap x3 = x3 := by rw [IntKind.wrap_u64]; omega
  have w4 : IntKind.u64.wrap x4 = x4 := by rw [IntKind.wrap_u64]; omega
  go_enter Try.func49, Try.ntmps49
  go_wp2_with fail
  go_region_held3 (fun w' => w'.cell? ⟨w.heap.size, 0, none⟩ = some (.bool x0) ∧ w'.cell? ⟨w.heap.size, 1, none⟩ = some (.int .u32 x1) ∧ w'.cell? ⟨w.heap.size, 2, none⟩ = some (.int .u64 x2) ∧ w'.cell? ⟨w.heap.size, 3, none⟩ = some (.int .u16 x3) ∧ w'.cell? ⟨w.heap.size, 4, none⟩ = some (.int .u16 x4) ∧ w'.cell? ⟨w.heap.size, 5, none⟩ = some (.int .u64 x5) ∧ w'.cell? ⟨w.heap.size, 6, none⟩ = some (.int .u64 x6) ∧ w'.cell? ⟨w.heap.size, 7, none⟩ = some (.slice A n k)) (go_keep)
    (first | (go_at_call 79; refine (truth_any _ _).mono ?_; rintro e w' ⟨rfl, rfl⟩))
  all_goals
    go_wp2_with fail
    exact bodyPost_ret (v := .agg #[.int .i64 cut, .int .u64 (tnum x0), .int .u64 x1, .int .u64 x2, .int .u64 x3, .int .u64 x4, .int .u64 x5, .int .u64 x6, .int .u64 0, .slice A n k]) (by simp [results, Try.results49, go_sem, *]) rfl ⟨rfl, by repeat (first | exact Below.refl _ _ | refine below_drew ?_ | refine below_alloc ?_ _)⟩
end Go.Proofs.Ytajdplhmbigolaa.Fra
