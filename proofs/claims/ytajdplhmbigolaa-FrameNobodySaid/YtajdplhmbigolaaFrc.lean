/- Cutting an option from the front of an inbox: the decoder that frame wraps round wire's, the generic cut at api.Option, and Option. -/
import Derived.Test.YtajdplhmbigolaaFrb
namespace Go.Proofs.Ytajdplhmbigolaa.Fra
open Go.RowKit Go.Proofs.YtajdplhmbigolaaW.PrintWords Go.Proofs.YtajdplhmbigolaaW.PrintLast Go.Proofs.Ytajdplhmbigolaa.Octa Go.Proofs.Ytajdplhmbigolaa.Hand
set_option linter.unusedVariables false

/-- What frame's own decoder of options answers. -/
structure Opt1 (w : World) (g : Nat) (v : Value) (room : Nat) (xs : List Int) (r1 r2 : Int) (r3 : Bool) (r4 : List Int) (n' e' : Int) (pass' : Nat) (e : Ending) (w' : World) : Prop where
  out : ∃ v_, e = .returned (.tuple #[.agg #[.int .u32 r1, .int .u32 r2, .bool r3, v_], .int .i64 n', .int .i64 e']) ∧ Kd.R (Kd.int .u8) 5 w' w.heap.size (fun _ => True) v_ r4 ∧ Ib w' g v room xs pass' ∧ Fr (· = g) w w'

set_option maxHeartbeats 1000000 in
set_option maxRecDepth 100000 in
theorem opt1_plain (g bm bx : Nat) (v : Value) (room : Nat) (xs : List Int) (A : Option Addr) (c : Nat) (l : List Int) (most : Int) (w : World) (h : Ib w g v room xs 0)
    (hm : w.cell? ⟨bm, 0, none⟩ = some (.int .u32 most)) (hx : w.cell? ⟨bx, 0, none⟩ = some (.pointer (some ⟨g, 0, none⟩)))
    (hC : Kd.C (Kd.int .u8) w A l.length l) (hc : l.length ≤ c) (r1 r2 : Int) (r3 : Bool) (r4 : List Int) (r5 r6 : Int) (hf : wire_DecodeOption.f l most = some (r1, r2, r3, r4, r5, r6)) (h12 : ¬ r6 = 12) :
    Calls Try.prog 36 #[.slice A l.length c, .pointer (some ⟨bm, 0, none⟩), .pointer (some ⟨bx, 0, none⟩)] w fun e w' => Opt1 w g v room xs r1 r2 r3 r4 r5 r6 0 e w' := by
  have hms : bm < w.heap.size := World.block_lt_of_cell? w _ hm
  have e12 : (r6 == 12) = false := beq_eq_false_iff_ne.mpr h12
  have HH := Lib.hid h
  have HF := Lib.hid hf
  have HC := Lib.hid hC
  have HX := Lib.hid hx
  clear h hf hC hx h12
  go_enter Try.func36, Try.ntmps36
  go_wp2_with fail
  refine (wire_DecodeOption.calls A c l most r1 r2 r3 r4 r5 r6 _ (Kd.C_below HC.out (below_alloc (Below.refl _ _) _)) hc HF.out).mono ?_
  rintro e w1 ⟨v_, rfl, hR, hB⟩
  obtain ⟨A', c', rfl⟩ := Kd.R_slice hR
  obtain ⟨bc, bf⟩ := below_rules hB
  have HR := Lib.hid hR
  have hz : w.heap.size < w1.heap.size := by have := hB.size; simp at this; omega
  have nb : ¬ w1.heap.size = w.heap.size := by omega
  have nb' : ¬ w.heap.size = w1.heap.size := by omega
  have hc0 : ∀ o, w1.cell? ⟨w.heap.size, o, none⟩ = _ := fun o => bc w.heap.size o (by simp)
  have hf0 : ∀ o, w1.frozen? ⟨w.heap.size, o, none⟩ = _ := fun o => bf w.heap.size o (by simp)
  simp only [go_sem] at hc0 hf0
  have HB := Lib.hid hB
  clear hR hB bc bf
  go_wp2_with fail
  have hacc : Below w.heap.size w w1 := below_then (below_alloc (Below.refl w.heap.size w) _) (by simp) HB.out
  have hall : ∀ x0 x1 x2 x3 : Value, Below w.heap.size w (((((w1.setCell ⟨w.heap.size, 0, none⟩ x0).setCell ⟨w.heap.size, 1, none⟩ x1).setCell ⟨w.heap.size, 2, none⟩ x2).setCell ⟨w.heap.size, 3, none⟩ x3).alloc (.cells #[x0, x1, x2, x3] 40)) := fun x0 x1 x2 x3 =>
    ((((hacc.setCell (Nat.le_refl _) _).setCell (Nat.le_refl _) _).setCell (Nat.le_refl _) _).setCell (Nat.le_refl _) _).alloc (by simp [World.setCell]; omega) _
  refine bodyPost_ret (v := .tuple #[.agg #[.int .u32 r1, .int .u32 r2, .bool r3, .slice A' r4.length c'], .int .i64 r5, .int .i64 r6]) (by simp [results, Try.results36, go_sem, *]) rfl ⟨⟨_, rfl, ?_, HH.out.below (hall _ _ _ _), Fr.of_below (hall _ _ _ _)⟩⟩
  refine Kd.R_lower (base := w.heap.size + 1) (Kd.R_alloc ?_ _) (by omega)
  have hR : Kd.R (Kd.int .u8) 5 w1 (w.heap.size + 1) (fun _ => True) (.slice A' r4.length c') r4 := by simpa using HR.out
  exact R_setlow (R_setlow (R_setlow (R_setlow hR (by omega) _) (by omega) _) (by omega) _) (by omega) _

theorem Ib.belowB {w w' : World} {B g : Nat} {v : Value} {room : Nat} {xs : List Int} {pass : Nat} (h : Ib w g v room xs pass) (hB : ∀ k, foot g v k → k < B) (hb : Below B w w') : Ib w' g v room xs pass := h.move fun k hk => hb.block k (hB k hk)

/-- The world at the end of an option's decoder, where the option is too long. -/
theorem long_end {fn : Func} {a : Act} {g : Nat} {v : Value} {room : Nat} {xs : List Int} {w w1 : World} {r1 r2 : Int} {r3 : Bool} {r4 : List Int} {A' : Option Addr} {c' : Nat} {n' p : Int} {m q : Nat}
    (hr : (results fn a.tmps).run Try.prog ((((((w1.setCell ⟨g, 2, none⟩ (.int .u64 p)).setCell ⟨w.heap.size, 0, none⟩ (.int .u32 r1)).setCell ⟨w.heap.size, 1, none⟩ (.int .u32 r2)).setCell ⟨w.heap.size, 2, none⟩ (.bool r3)).setCell ⟨w.heap.size, 3, none⟩ (.slice A' r4.length c')).alloc (.cells #[.int .u32 r1, .int .u32 r2, .bool r3, .slice A' r4.length c'] 40)) = .ok (.tuple #[.agg #[.int .u32 r1, .int .u32 r2, .bool r3, .slice A' r4.length c'], .int .i64 n', .int .i64 0]) ((((((w1.setCell ⟨g, 2, none⟩ (.int .u64 p)).setCell ⟨w.heap.size, 0, none⟩ (.int .u32 r1)).setCell ⟨w.heap.size, 1, none⟩ (.int .u32 r2)).setCell ⟨w.heap.size, 2, none⟩ (.bool r3)).setCell ⟨w.heap.size, 3, none⟩ (.slice A' r4.length c')).alloc (.cells #[.int .u32 r1, .int .u32 r2, .bool r3, .slice A' r4.length c'] 40)))
    (hn : n' = m) (hp : p = q) (hq : q ≤ 4294967295) (h : Ib w g v room xs 0) (hI : Ib w1 g v room xs 0) (hacc : Below w.heap.size w w1) (hR : Kd.R (Kd.int .u8) 5 w1 (w.heap.size + 1) (fun _ => True) (.slice A' r4.length c') r4) (hd : a.defers = [] := by rfl) :
    bodyPost Try.prog fn (fun e w' => Opt1 w g v room xs r1 r2 r3 r4 m 0 q e w') Exit.ret a ((((((w1.setCell ⟨g, 2, none⟩ (.int .u64 p)).setCell ⟨w.heap.size, 0, none⟩ (.int .u32 r1)).setCell ⟨w.heap.size, 1, none⟩ (.int .u32 r2)).setCell ⟨w.heap.size, 2, none⟩ (.bool r3)).setCell ⟨w.heap.size, 3, none⟩ (.slice A' r4.length c')).alloc (.cells #[.int .u32 r1, .int .u32 r2, .bool r3, .slice A' r4.length c'] 40)) := by
  subst hn
  have hI2 := hI.setpass q hq p hp
  have hgl : g < w.heap.size := h.lt.1
  have hB2 : Below w.heap.size (w1.setCell ⟨g, 2, none⟩ (.int .u64 p)) ((((((w1.setCell ⟨g, 2, none⟩ (.int .u64 p)).setCell ⟨w.heap.size, 0, none⟩ (.int .u32 r1)).setCell ⟨w.heap.size, 1, none⟩ (.int .u32 r2)).setCell ⟨w.heap.size, 2, none⟩ (.bool r3)).setCell ⟨w.heap.size, 3, none⟩ (.slice A' r4.length c')).alloc (.cells #[.int .u32 r1, .int .u32 r2, .bool r3, .slice A' r4.length c'] 40)) :=
    (((((Below.refl w.heap.size (w1.setCell ⟨g, 2, none⟩ (.int .u64 p))).setCell (Nat.le_refl _) _).setCell (Nat.le_refl _) _).setCell (Nat.le_refl _) _).setCell (Nat.le_refl _) _).alloc (by have := hacc.size; simp [World.setCell]; omega) _
  refine bodyPost_ret hr hd ⟨⟨_, rfl, ?_, ?_, ?_⟩⟩
  · refine Kd.R_lower (base := w.heap.size + 1) (Kd.R_alloc ?_ _) (by omega)
    exact R_setlow (R_setlow (R_setlow (R_setlow (R_setlow hR (by omega) _) (by omega) _) (by omega) _) (by omega) _) (by omega) _
  · exact hI2.belowB (fun k hk => by rcases hk with rfl | hk <;> first | exact h.lt.1 | exact h.lt.2 k hk) hB2
  · refine ⟨hB2.os.trans hacc.os, hB2.tape.trans hacc.tape, hB2.output.trans hacc.output, ?_, fun k hk hn => ?_⟩
    · have := hacc.size; simp [World.setCell]; omega
    · rw [hB2.block k hk, Below.heap_setCell _ _ _ _ hn, hacc.block k hk]

set_option maxHeartbeats 1000000 in
set_option maxRecDepth 100000 in
theorem opt1_long (g bm bx : Nat) (v : Value) (room : Nat) (xs : List Int) (A : Option Addr) (c : Nat) (l : List Int) (most : Int) (w : World) (h : Ib w g v room xs 0)
    (hm : w.cell? ⟨bm, 0, none⟩ = some (.int .u32 most)) (hx : w.cell? ⟨bx, 0, none⟩ = some (.pointer (some ⟨g, 0, none⟩)))
    (hC : Kd.C (Kd.int .u8) w A l.length l) (hc : l.length ≤ c) (hl : l.length ≤ 2097152) (r1 : Int) (k : Nat) (r3 : Bool) (r4 : List Int) (n : Nat) (hk : k ≤ 4294967295) (hn : n ≤ l.length) (hf : wire_DecodeOption.f l most = some (r1, (k : Int), r3, r4, (n : Int), 12)) :
    Calls Try.prog 36 #[.slice A l.length c, .pointer (some ⟨bm, 0, none⟩), .pointer (some ⟨bx, 0, none⟩)] w fun e w' => Opt1 w g v room xs r1 k r3 r4 ((n + min (l.length - n) k : Nat) : Int) 0 (k - min (l.length - n) k) e w' := by
  have hms : bm < w.heap.size := World.block_lt_of_cell? w _ hm
  have hxs : bx < w.heap.size := World.block_lt_of_cell? w _ hx
  have hgl : g < w.heap.size := h.lt.1
  have HH := Lib.hid h
  have HF := Lib.hid hf
  have HC := Lib.hid hC
  have HX := Lib.hid hx
  clear h hf hC hx
  go_enter Try.func36, Try.ntmps36
  go_wp2_with fail
  refine (wire_DecodeOption.calls A c l most r1 k r3 r4 n 12 _ (Kd.C_below HC.out (below_alloc (Below.refl _ _) _)) hc HF.out).mono ?_
  rintro e w1 ⟨v_, rfl, hR, hB⟩
  obtain ⟨A', c', rfl⟩ := Kd.R_slice hR
  obtain ⟨bc, bf⟩ := below_rules hB
  have HR := Lib.hid hR
  have hz : w.heap.size < w1.heap.size := by have := hB.size; simp at this; omega
  have nb : ¬ w1.heap.size = w.heap.size := by omega
  have nb' : ¬ w.heap.size = w1.heap.size := by omega
  have hc0 : ∀ o, w1.cell? ⟨w.heap.size, o, none⟩ = _ := fun o => bc w.heap.size o (by simp)
  have hf0 : ∀ o, w1.frozen? ⟨w.heap.size, o, none⟩ = _ := fun o => bf w.heap.size o (by simp)
  simp only [go_sem] at hc0 hf0
  have hacc : Below w.heap.size w w1 := below_then (below_alloc (Below.refl w.heap.size w) _) (by simp) hB
  have hxc : w1.cell? ⟨bx, 0, none⟩ = some (.pointer (some ⟨g, 0, none⟩)) := pw_cell_below hacc HX.out
  have hI := HH.out.below hacc
  have hg2 : w1.cell? ⟨g, 2, none⟩ = some _ := (blk_cell hI.blk 2).trans rfl
  have hgf : w1.frozen? ⟨g, 2, none⟩ = false := blk_frozen hI.blk 2
  have hx1 : bx < w1.heap.size := by omega
  have hg1 : g < w1.heap.size := by omega
  have ng : ¬ w1.heap.size = g := by omega
  have ng' : ¬ g = w1.heap.size := by omega
  have nh : ¬ w.heap.size = g := by omega
  have nh' : ¬ g = w.heap.size := by omega
  have nx : ¬ w1.heap.size = bx := by omega
  have nx' : ¬ bx = w1.heap.size := by omega
  have HI := Lib.hid hI
  have HB := Lib.hid hB
  have HA := Lib.hid hacc
  clear hR hB bc bf hI hacc
  rcases Nat.lt_or_ge k (l.length - n) with hlt | hge
  · have hlt' : (k : Int) < (l.length : Int) - (n : Int) := by omega
    go_wp2_with fail
    exact long_end (n' := ((n : Int) + (k : Int))) (p := (0 : Int)) (by simp [results, Try.results36, go_sem, *]) (by omega) (by omega) (by omega) HH.out HI.out HA.out (by simpa using HR.out)
  · have hge' : ¬ (k : Int) < (l.length : Int) - (n : Int) := by omega
    go_wp2_with fail
    exact long_end (n' := ((n : Int) + ((l.length : Int) - (n : Int)))) (p := ((k : Int) - ((l.length : Int) - (n : Int)))) (by simp [results, Try.results36, go_sem, *]) (by omega) (by omega) (by omega) HH.out HI.out HA.out (by simpa using HR.out)
end Go.Proofs.Ytajdplhmbigolaa.Fra
