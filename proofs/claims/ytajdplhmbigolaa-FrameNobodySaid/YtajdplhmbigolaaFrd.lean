/- Cutting an option from the front of an inbox: the generic cut at api.Option, and Option. -/
import Derived.Test.YtajdplhmbigolaaFrc
namespace Go.Proofs.Ytajdplhmbigolaa.Fra
open Go.RowKit Go.Proofs.YtajdplhmbigolaaW.PrintWords Go.Proofs.YtajdplhmbigolaaW.PrintLast Go.Proofs.Ytajdplhmbigolaa.Octa Go.Proofs.Ytajdplhmbigolaa.Hand
set_option linter.unusedVariables false

/-- What cutting an option leaves: its answer, the bytes in a row of their own, and the inbox. -/
structure CutOpt (w : World) (g : Nat) (v : Value) (room : Nat) (xs : List Int) (pass : Nat) (r1 r2 : Int) (r3 : Bool) (r4 : List Int) (cd : Int) (e : Ending) (w' : World) : Prop where
  out : ∃ v' v_, e = .returned (.tuple #[.agg #[.int .u32 r1, .int .u32 r2, .bool r3, v_], .int .i64 cd]) ∧ Kd.R (Kd.int .u8) 5 w' w.heap.size (fun k => v'.ownBlock ≠ some k) v_ r4 ∧ After w w' g v v' room xs pass

theorem cell_set4 {w : World} {b : Nat} {x0 x1 x2 x3 : Value} {p : Addr} (h : b ≠ p.block) : ((((w.setCell ⟨b, 0, none⟩ x0).setCell ⟨b, 1, none⟩ x1).setCell ⟨b, 2, none⟩ x2).setCell ⟨b, 3, none⟩ x3).cell? p = w.cell? p := by
  rw [World.cell?_setCell_other, World.cell?_setCell_other, World.cell?_setCell_other, World.cell?_setCell_other]
  all_goals (rintro rfl; exact h rfl)

theorem blk_set4 {w : World} {b t : Nat} {x0 x1 x2 x3 y0 y1 y2 y3 : Value} (h : w.heap[b]? = some (.cells #[y0, y1, y2, y3] t (0, 0))) : ((((w.setCell ⟨b, 0, none⟩ x0).setCell ⟨b, 1, none⟩ x1).setCell ⟨b, 2, none⟩ x2).setCell ⟨b, 3, none⟩ x3).heap[b]? = some (.cells #[x0, x1, x2, x3] t (0, 0)) := by
  have h1 : (w.setCell ⟨b, 0, none⟩ x0).heap[b]? = some (.cells #[x0, y1, y2, y3] t (0, 0)) := (blk_set h 0 x0).trans rfl
  have h2 : ((w.setCell ⟨b, 0, none⟩ x0).setCell ⟨b, 1, none⟩ x1).heap[b]? = some (.cells #[x0, x1, y2, y3] t (0, 0)) := (blk_set h1 1 x1).trans rfl
  have h3 : (((w.setCell ⟨b, 0, none⟩ x0).setCell ⟨b, 1, none⟩ x1).setCell ⟨b, 2, none⟩ x2).heap[b]? = some (.cells #[x0, x1, x2, y3] t (0, 0)) := (blk_set h2 2 x2).trans rfl
  exact (blk_set h3 3 x3).trans rfl
theorem heap_set4 {w : World} {b : Nat} {x0 x1 x2 x3 : Value} {k : Nat} (h : k ≠ b) : ((((w.setCell ⟨b, 0, none⟩ x0).setCell ⟨b, 1, none⟩ x1).setCell ⟨b, 2, none⟩ x2).setCell ⟨b, 3, none⟩ x3).heap[k]? = w.heap[k]? := by
  rw [Below.heap_setCell _ _ _ _ h, Below.heap_setCell _ _ _ _ h, Below.heap_setCell _ _ _ _ h, Below.heap_setCell _ _ _ _ h]
theorem below_set4 {w0 w : World} {B b : Nat} {x0 x1 x2 x3 : Value} (h : Below B w0 w) (hb : B ≤ b) : Below B w0 ((((w.setCell ⟨b, 0, none⟩ x0).setCell ⟨b, 1, none⟩ x1).setCell ⟨b, 2, none⟩ x2).setCell ⟨b, 3, none⟩ x3) := (((h.setCell hb _).setCell hb _).setCell hb _).setCell hb _

/-- Behind the decoder's call: the message in a box of its own, the two zero ones, and the inbox. -/
structure MidOpt (w wx : World) (g : Nat) (v : Value) (room : Nat) (xs : List Int) (pass : Nat) (r1 r2 : Int) (r3 : Bool) (r4 : List Int) (a : Value) : Prop where
  out : ∃ b A' c', a = .pointer (some ⟨b, 0, none⟩) ∧ w.heap.size + 1 + 1 < b ∧ wx.heap[b]? = some (.cells #[.int .u32 r1, .int .u32 r2, .bool r3, .slice A' r4.length c'] 40 (0, 0)) ∧
    wx.heap[w.heap.size + 1]? = some (.cells #[.int .u32 0, .int .u32 0, .bool false, .slice none 0 0] 40 (0, 0)) ∧ wx.heap[w.heap.size + 1 + 1]? = some (.cells #[.int .u32 0, .int .u32 0, .bool false, .slice none 0 0] 40 (0, 0)) ∧
    Kd.R (Kd.int .u8) 5 wx (w.heap.size + 1 + 1 + 1) (fun _ => True) (.slice A' r4.length c') r4 ∧ Ib wx g v room xs pass ∧ Fr (· = g) w wx

set_option maxHeartbeats 1000000 in
set_option maxRecDepth 100000 in
theorem of_opt (g bm bx : Nat) (v : Value) (room : Nat) (xs : List Int) (w : World) (h : Ib w g v room xs 0) (r1 r2 : Int) (r3 : Bool) (r4 : List Int) (n' e' : Int) (p' : Nat)
    (hcall : ∀ W, Below w.heap.size w W → ∀ A c, v = .slice A xs.length c → Calls Try.prog 36 #[.slice A xs.length xs.length, .pointer (some ⟨bm, 0, none⟩), .pointer (some ⟨bx, 0, none⟩)] W fun e w' => Opt1 W g v room xs r1 r2 r3 r4 n' e' p' e w')
    (hd : e' = 0 → 0 ≤ n' ∧ n' ≤ xs.length) :
    Calls Try.prog 38 #[.agg #[.func (Fn.func 36) #[] #[.pointer (some ⟨bm, 0, none⟩), .pointer (some ⟨bx, 0, none⟩)]], .pointer (some ⟨g, 0, none⟩)] w fun e w' =>
      CutOpt w g v room (if e' = 0 then xs.drop n'.toNat else xs) p' (if e' = 0 then r1 else 0) (if e' = 0 then r2 else 0) (if e' = 0 then r3 else false) (if e' = 0 then r4 else []) (code e') e w' := by
  obtain ⟨hb, ho, hne, hr1, hr2, hfit, hps⟩ := id h
  obtain ⟨A1, cp1, rfl⟩ := wr_form ho
  obtain ⟨_, _, hcp⟩ := h.C
  have hb' := blk_alloc (blk_alloc hb (.cells #[.func (Fn.func 36) #[] #[.pointer (some ⟨bm, 0, none⟩), .pointer (some ⟨bx, 0, none⟩)]] 97)) (.cells #[.int .u32 0, .int .u32 0, .bool false, .slice none 0 0] 40)
  have hb3 := blk_alloc hb' (.cells #[.int .u32 0, .int .u32 0, .bool false, .slice none 0 0] 40)
  have HB := Lib.hid hb3
  have hc1 : w.cell? ⟨g, 1, none⟩ = some _ := (blk_cell hb 1).trans rfl
  have hc2 : w.cell? ⟨g, 2, none⟩ = some _ := (blk_cell hb 2).trans rfl
  have hgl : g < w.heap.size := h.lt.1
  have hgn : ¬ g = w.heap.size := by omega
  have hgn1 : ¬ g = w.heap.size + 1 := by omega
  have hgn2 : ¬ g = w.heap.size + 1 + 1 := by omega
  have hgl1 : g < w.heap.size + 1 := by omega
  have hgl2 : g < w.heap.size + 1 + 1 := by omega
  have HH := Lib.hid h
  have HD := Lib.hid hd
  have HCALL := Lib.hid hcall
  clear ho hne hb h hb' hb3 hd hcall
  go_enter Try.func38, Try.ntmps38
  go_wp2_with fail
  refine (made_any g room _ _ _ hr1 hr2 HB.out).mono ?_
  rintro e w' ⟨rfl, rfl⟩
  have Z0 : Hid ((((w.alloc (.cells #[.func (Fn.func 36) #[] #[.pointer (some ⟨bm, 0, none⟩), .pointer (some ⟨bx, 0, none⟩)]] 97)).alloc (.cells #[.int .u32 0, .int .u32 0, .bool false, .slice none 0 0] 40)).alloc (.cells #[.int .u32 0, .int .u32 0, .bool false, .slice none 0 0] 40)).heap[w.heap.size]? = some (.cells #[.func (Fn.func 36) #[] #[.pointer (some ⟨bm, 0, none⟩), .pointer (some ⟨bx, 0, none⟩)]] 97)) := Lib.hid (blk_alloc (blk_alloc (blk_new w _) _) _)
  have Z1 : Hid ((((w.alloc (.cells #[.func (Fn.func 36) #[] #[.pointer (some ⟨bm, 0, none⟩), .pointer (some ⟨bx, 0, none⟩)]] 97)).alloc (.cells #[.int .u32 0, .int .u32 0, .bool false, .slice none 0 0] 40)).alloc (.cells #[.int .u32 0, .int .u32 0, .bool false, .slice none 0 0] 40)).heap[w.heap.size + 1]? = some (.cells #[.int .u32 0, .int .u32 0, .bool false, .slice none 0 0] 40)) := Lib.hid (by simpa using blk_alloc (blk_new (w.alloc (.cells #[.func (Fn.func 36) #[] #[.pointer (some ⟨bm, 0, none⟩), .pointer (some ⟨bx, 0, none⟩)]] 97)) (.cells #[.int .u32 0, .int .u32 0, .bool false, .slice none 0 0] 40)) (.cells #[.int .u32 0, .int .u32 0, .bool false, .slice none 0 0] 40))
  have Z2 : Hid ((((w.alloc (.cells #[.func (Fn.func 36) #[] #[.pointer (some ⟨bm, 0, none⟩), .pointer (some ⟨bx, 0, none⟩)]] 97)).alloc (.cells #[.int .u32 0, .int .u32 0, .bool false, .slice none 0 0] 40)).alloc (.cells #[.int .u32 0, .int .u32 0, .bool false, .slice none 0 0] 40)).heap[w.heap.size + 1 + 1]? = some (.cells #[.int .u32 0, .int .u32 0, .bool false, .slice none 0 0] 40)) := Lib.hid (by simpa using blk_new ((w.alloc (.cells #[.func (Fn.func 36) #[] #[.pointer (some ⟨bm, 0, none⟩), .pointer (some ⟨bx, 0, none⟩)]] 97)).alloc (.cells #[.int .u32 0, .int .u32 0, .bool false, .slice none 0 0] 40)) (.cells #[.int .u32 0, .int .u32 0, .bool false, .slice none 0 0] 40))
  have Y0 : Hid (((((w.alloc (.cells #[.func (Fn.func 36) #[] #[.pointer (some ⟨bm, 0, none⟩), .pointer (some ⟨bx, 0, none⟩)]] 97)).alloc (.cells #[.int .u32 0, .int .u32 0, .bool false, .slice none 0 0] 40)).alloc (.cells #[.int .u32 0, .int .u32 0, .bool false, .slice none 0 0] 40)).alloc (.cells #[.int .u32 0, .int .u32 0, .bool false, .slice none 0 0] 40)).heap[w.heap.size]? = some (.cells #[.func (Fn.func 36) #[] #[.pointer (some ⟨bm, 0, none⟩), .pointer (some ⟨bx, 0, none⟩)]] 97)) := Lib.hid (blk_alloc Z0.out _)
  have Y1 : Hid (((((w.alloc (.cells #[.func (Fn.func 36) #[] #[.pointer (some ⟨bm, 0, none⟩), .pointer (some ⟨bx, 0, none⟩)]] 97)).alloc (.cells #[.int .u32 0, .int .u32 0, .bool false, .slice none 0 0] 40)).alloc (.cells #[.int .u32 0, .int .u32 0, .bool false, .slice none 0 0] 40)).alloc (.cells #[.int .u32 0, .int .u32 0, .bool false, .slice none 0 0] 40)).heap[w.heap.size + 1]? = some (.cells #[.int .u32 0, .int .u32 0, .bool false, .slice none 0 0] 40)) := Lib.hid (blk_alloc Z1.out _)
  have Y2 : Hid (((((w.alloc (.cells #[.func (Fn.func 36) #[] #[.pointer (some ⟨bm, 0, none⟩), .pointer (some ⟨bx, 0, none⟩)]] 97)).alloc (.cells #[.int .u32 0, .int .u32 0, .bool false, .slice none 0 0] 40)).alloc (.cells #[.int .u32 0, .int .u32 0, .bool false, .slice none 0 0] 40)).alloc (.cells #[.int .u32 0, .int .u32 0, .bool false, .slice none 0 0] 40)).heap[w.heap.size + 1 + 1]? = some (.cells #[.int .u32 0, .int .u32 0, .bool false, .slice none 0 0] 40)) := Lib.hid (blk_alloc Z2.out _)
  have Y3 : Hid (((((w.alloc (.cells #[.func (Fn.func 36) #[] #[.pointer (some ⟨bm, 0, none⟩), .pointer (some ⟨bx, 0, none⟩)]] 97)).alloc (.cells #[.int .u32 0, .int .u32 0, .bool false, .slice none 0 0] 40)).alloc (.cells #[.int .u32 0, .int .u32 0, .bool false, .slice none 0 0] 40)).alloc (.cells #[.int .u32 0, .int .u32 0, .bool false, .slice none 0 0] 40)).heap[w.heap.size + 1 + 1 + 1]? = some (.cells #[.int .u32 0, .int .u32 0, .bool false, .slice none 0 0] 40)) := Lib.hid (by simpa using blk_new (((w.alloc (.cells #[.func (Fn.func 36) #[] #[.pointer (some ⟨bm, 0, none⟩), .pointer (some ⟨bx, 0, none⟩)]] 97)).alloc (.cells #[.int .u32 0, .int .u32 0, .bool false, .slice none 0 0] 40)).alloc (.cells #[.int .u32 0, .int .u32 0, .bool false, .slice none 0 0] 40)) (.cells #[.int .u32 0, .int .u32 0, .bool false, .slice none 0 0] 40))
  have B4 := Lib.hid (blk_alloc HB.out (.cells #[.int .u32 0, .int .u32 0, .bool false, .slice none 0 0] 40))
  have K3 : Hid ((((w.alloc (.cells #[.func (Fn.func 36) #[] #[.pointer (some ⟨bm, 0, none⟩), .pointer (some ⟨bx, 0, none⟩)]] 97)).alloc (.cells #[.int .u32 0, .int .u32 0, .bool false, .slice none 0 0] 40)).alloc (.cells #[.int .u32 0, .int .u32 0, .bool false, .slice none 0 0] 40)).drew.cell? ⟨w.heap.size, 0, none⟩ = some (.func (Fn.func 36) #[] #[.pointer (some ⟨bm, 0, none⟩), .pointer (some ⟨bx, 0, none⟩)]) ∧ (((w.alloc (.cells #[.func (Fn.func 36) #[] #[.pointer (some ⟨bm, 0, none⟩), .pointer (some ⟨bx, 0, none⟩)]] 97)).alloc (.cells #[.int .u32 0, .int .u32 0, .bool false, .slice none 0 0] 40)).alloc (.cells #[.int .u32 0, .int .u32 0, .bool false, .slice none 0 0] 40)).drew.cell? ⟨g, 1, none⟩ = some (.slice A1 xs.length cp1)) := Lib.hid ⟨(blk_cell (w := World.drew _) Z0.out 0).trans rfl, (blk_cell (w := World.drew _) HB.out 1).trans rfl⟩
  have K4 : Hid (((((w.alloc (.cells #[.func (Fn.func 36) #[] #[.pointer (some ⟨bm, 0, none⟩), .pointer (some ⟨bx, 0, none⟩)]] 97)).alloc (.cells #[.int .u32 0, .int .u32 0, .bool false, .slice none 0 0] 40)).alloc (.cells #[.int .u32 0, .int .u32 0, .bool false, .slice none 0 0] 40)).alloc (.cells #[.int .u32 0, .int .u32 0, .bool false, .slice none 0 0] 40)).drew.cell? ⟨w.heap.size, 0, none⟩ = some (.func (Fn.func 36) #[] #[.pointer (some ⟨bm, 0, none⟩), .pointer (some ⟨bx, 0, none⟩)]) ∧ ((((w.alloc (.cells #[.func (Fn.func 36) #[] #[.pointer (some ⟨bm, 0, none⟩), .pointer (some ⟨bx, 0, none⟩)]] 97)).alloc (.cells #[.int .u32 0, .int .u32 0, .bool false, .slice none 0 0] 40)).alloc (.cells #[.int .u32 0, .int .u32 0, .bool false, .slice none 0 0] 40)).alloc (.cells #[.int .u32 0, .int .u32 0, .bool false, .slice none 0 0] 40)).drew.cell? ⟨g, 1, none⟩ = some (.slice A1 xs.length cp1)) := Lib.hid ⟨(blk_cell (w := World.drew _) Y0.out 0).trans rfl, (blk_cell (w := World.drew _) B4.out 1).trans rfl⟩
  go_upto_region 4 with (fail)
  go_cut [7, 8, 9] (fun a b c wx => MidOpt w wx g (.slice A1 xs.length cp1) room xs p' r1 r2 r3 r4 a ∧ b = .int .i64 n' ∧ c = .int .i64 e')
  case first =>
    go_region_held3 (fun w' => w'.cell? ⟨w.heap.size, 0, none⟩ = some (.func (Fn.func 36) #[] #[.pointer (some ⟨bm, 0, none⟩), .pointer (some ⟨bx, 0, none⟩)]) ∧ w'.cell? ⟨g, 1, none⟩ = some (.slice A1 xs.length cp1)) (first | (with_reducible exact K3.out) | (with_reducible exact K4.out) | (refine ⟨?_, ?_⟩ <;> with_reducible assumption) | (refine ⟨?_, ?_⟩ <;> (with_reducible refine pw_cell_below (below_alloc (Below.refl w2.heap.size w2) _) ?_; with_reducible assumption)) | (refine ⟨?_, ?_⟩ <;> (rw [cell_set4] <;> first | (with_reducible assumption) | (simp; done) | (simp; omega))))
      (first | (go_at_call 36; refine (HCALL.out _ ?_ A1 cp1 rfl).mono ?_; (with_reducible exact below_drew (below_alloc (below_alloc (below_alloc (Below.refl w.heap.size w) _) _) _)); rintro e w2 ⟨v_, rfl, hR, hI, hfr⟩; (obtain ⟨A', c', rfl⟩ := Kd.R_slice hR); (have kg : w2.cell? ⟨g, 1, none⟩ = some (.slice A1 xs.length cp1) := (blk_cell hI.blk 1).trans rfl); (have b0 := (hfr.block w.heap.size (blk_lt Z0.out) (fun e => hgn e.symm)).trans Z0.out); (have k0 : w2.cell? ⟨w.heap.size, 0, none⟩ = some (.func (Fn.func 36) #[] #[.pointer (some ⟨bm, 0, none⟩), .pointer (some ⟨bx, 0, none⟩)]) := (blk_cell b0 0).trans rfl); (have HI := Lib.hid hI); (have HR := Lib.hid hR); (have HFR := Lib.hid hfr); clear hI hR hfr b0) | (go_at_call 36; refine (HCALL.out _ ?_ A1 cp1 rfl).mono ?_; (with_reducible exact below_drew (below_alloc (below_alloc (below_alloc (below_alloc (Below.refl w.heap.size w) _) _) _) _)); rintro e w2 ⟨v_, rfl, hR, hI, hfr⟩; (obtain ⟨A', c', rfl⟩ := Kd.R_slice hR); (have kg : w2.cell? ⟨g, 1, none⟩ = some (.slice A1 xs.length cp1) := (blk_cell hI.blk 1).trans rfl); (have b0 := (hfr.block w.heap.size (blk_lt Y0.out) (fun e => hgn e.symm)).trans Y0.out); (have k0 : w2.cell? ⟨w.heap.size, 0, none⟩ = some (.func (Fn.func 36) #[] #[.pointer (some ⟨bm, 0, none⟩), .pointer (some ⟨bx, 0, none⟩)]) := (blk_cell b0 0).trans rfl); (have b3 := (hfr.block (w.heap.size + 1 + 1 + 1) (blk_lt Y3.out) (by omega)).trans Y3.out); (have c7 : ∀ o, w2.cell? ⟨w.heap.size + 1 + 1 + 1, o, none⟩ = _ := fun o => blk_cell b3 o); (have f7 : ∀ o, w2.frozen? ⟨w.heap.size + 1 + 1 + 1, o, none⟩ = false := fun o => blk_frozen b3 o); (have B3 := Lib.hid b3); clear b3; (have HI := Lib.hid hI); (have HR := Lib.hid hR); (have HFR := Lib.hid hfr); clear hI hR hfr b0))
    · go_wp2_with fail
      go_meet
      case rel =>
        have hs := HFR.out.size
        refine ⟨⟨w2.heap.size, A', c', rfl, ?_, blk_new w2 _, blk_alloc ((HFR.out.block _ (blk_lt Z1.out) (by omega)).trans Z1.out) _, blk_alloc ((HFR.out.block _ (blk_lt Z2.out) (by omega)).trans Z2.out) _, ?_, HI.out.below (below_alloc (Below.refl _ _) _), ((Fr.of_below (below_drew (below_alloc (below_alloc (below_alloc (Below.refl w.heap.size w) _) _) _))).trans HFR.out).alloc _⟩, rfl, rfl⟩
        · simp at hs; omega
        · exact Kd.R_alloc (by simpa using HR.out) _
    · go_wp2_with fail
      go_meet
      case rel =>
        have hs := HFR.out.size
        refine ⟨⟨w.heap.size + 1 + 1 + 1, A', c', rfl, by omega, blk_set4 B3.out, (heap_set4 (by omega)).trans ((HFR.out.block _ (blk_lt Y1.out) (by omega)).trans Y1.out), (heap_set4 (by omega)).trans ((HFR.out.block _ (blk_lt Y2.out) (by omega)).trans Y2.out), ?_, ?_, ?_⟩, rfl, rfl⟩
        · refine Kd.R_lower (base := w.heap.size + 1 + 1 + 1 + 1) ?_ (by omega)
          exact R_setlow (R_setlow (R_setlow (R_setlow (by simpa using HR.out) (by omega) _) (by omega) _) (by omega) _) (by omega) _
        · exact HI.out.belowB (B := w.heap.size) (fun k hk => by rcases hk with rfl | hk <;> first | exact HH.out.lt.1 | exact HH.out.lt.2 k hk) (below_set4 (Below.refl _ _) (by omega))
        · have f1 := (Fr.of_below (S := (· = g)) (below_drew (below_alloc (below_alloc (below_alloc (below_alloc (Below.refl w.heap.size w) _) _) _) _))).trans HFR.out
          refine ⟨f1.os, f1.tape, f1.output, by simpa [World.setCell] using f1.size, fun k hk hn => (heap_set4 (by omega)).trans (f1.block k hk hn)⟩
  case rest =>
    obtain ⟨⟨b7, A', c', rfl, hb7, m7, m4, m6, hR, hI, hfr⟩, rfl, rfl⟩ := hcut
    have l7 : b7 < wc.heap.size := blk_lt m7
    have c7 : ∀ o, wc.cell? ⟨b7, o, none⟩ = _ := fun o => blk_cell m7 o
    have c4 : ∀ o, wc.cell? ⟨w.heap.size + 1, o, none⟩ = _ := fun o => blk_cell m4 o
    have f4 : ∀ o, wc.frozen? ⟨w.heap.size + 1, o, none⟩ = false := fun o => blk_frozen m4 o
    have c6 : ∀ o, wc.cell? ⟨w.heap.size + 1 + 1, o, none⟩ = _ := fun o => blk_cell m6 o
    have l4 : w.heap.size + 1 < wc.heap.size := blk_lt m4
    have hsz : w.heap.size ≤ wc.heap.size := by omega
    have M7 := Lib.hid m7
    have M4 := Lib.hid m4
    have HI := Lib.hid hI
    have HR := Lib.hid hR
    have HFR := Lib.hid hfr
    clear hI hR hfr m7 m4 m6 hc1 hc2
    by_cases h0 : e' = 0
    · subst h0
      obtain ⟨hd0, hd1⟩ := HD.out rfl
      obtain ⟨n, rfl⟩ := Int.eq_ofNat_of_zero_le hd0
      have hn : n ≤ xs.length := by omega
      have HN := Lib.hid hn
      clear hd0 hd1 hn
      clear c4 f4 c7
      go_wp2_with (go_at_call 76; go_must (refine (drop_calls g _ room xs p' n HN.out _ HI.out).mono ?_); rintro e w3 ⟨v3, rfl, i1, i2, i3⟩; (have m4' := (i2.block (w.heap.size + 1) (blk_lt M4.out) (fun hk => by rcases hk with hk | hk; exact hgn1 hk.symm; exact absurd (HH.out.lt.2 _ hk) (by omega))).trans M4.out); (have m7' := (i2.block b7 (blk_lt M7.out) (fun hk => by rcases hk with hk | hk; omega; exact absurd (HH.out.lt.2 _ hk) (by omega))).trans M7.out); (have c4 : ∀ o, w3.cell? ⟨w.heap.size + 1, o, none⟩ = _ := fun o => blk_cell m4' o); (have f4 : ∀ o, w3.frozen? ⟨w.heap.size + 1, o, none⟩ = false := fun o => blk_frozen m4' o); (have c7 : ∀ o, w3.cell? ⟨b7, o, none⟩ = _ := fun o => blk_cell m7' o); (have HI3 := Lib.hid (And.intro i1 (And.intro i2 i3))); clear i1 i2 i3 m4' m7')
      obtain ⟨i1, i2, i3⟩ := HI3.out
      have hz3 := i2.size
      have hns : ∀ k, v3.ownBlock = some k → k ≠ w.heap.size + 1 := fun k hk => by have := i3 k hk; omega
      refine bodyPost_ret (v := .tuple #[.agg #[.int .u32 r1, .int .u32 r2, .bool r3, .slice A' r4.length c'], .int .i64 1]) (by simp [results, Try.results38, go_sem, *]) rfl ⟨⟨v3, _, rfl, ?_, ⟨?_, ?_, fun k hk => .inr (by have := i3 k hk; omega)⟩⟩⟩
      · have h1 := Kd.R_move (Kd.R_bound HR.out) (w1 := w3) (fun k hk => i2.block k hk.2.2.1 (fun hf => by rcases hf with hf | hf; exact absurd hk.2.1 (by omega); exact absurd (HH.out.lt.2 _ hf) (by have := hk.2.1; omega)))
        have h2 := Kd.R_mono (ok' := fun k => v3.ownBlock ≠ some k) h1 (fun k hk e => by have h3 := i3 k e; have h4 := hk.2.2.1; omega)
        exact Kd.R_lower (R_setlow (R_setlow (R_setlow (R_setlow h2 (by omega) _) (by omega) _) (by omega) _) (by omega) _) (by omega)
      · exact i1.move fun k hk => heap_set4 (by rcases hk with rfl | hk; exact hgn1; exact hns k hk)
      · have f1 := (HFR.out.mono (T := foot g (.slice A1 xs.length cp1)) (fun k _ hk => .inl hk)).trans i2
        exact ⟨f1.os, f1.tape, f1.output, by simpa [World.setCell] using f1.size, fun k hk hn => (heap_set4 (by omega)).trans (f1.block k hk hn)⟩
    · have fin : ∀ w', w' = ((((wc.setCell ⟨w.heap.size + 1, 0, none⟩ (.int .u32 0)).setCell ⟨w.heap.size + 1, 1, none⟩ (.int .u32 0)).setCell ⟨w.heap.size + 1, 2, none⟩ (.bool false)).setCell ⟨w.heap.size + 1, 3, none⟩ (.slice none 0 0)) → Kd.R (Kd.int .u8) 5 w' w.heap.size (fun k => (Value.slice A1 xs.length cp1).ownBlock ≠ some k) (.slice none 0 0) [] ∧ After w w' g (.slice A1 xs.length cp1) (.slice A1 xs.length cp1) room xs p' := by
        rintro w' rfl
        refine ⟨Kd.R_nil _ _ _ _ _, ?_, ?_, fun k hk => .inl hk⟩
        · exact HI.out.belowB (B := w.heap.size) (fun k hk => by rcases hk with rfl | hk <;> first | exact HH.out.lt.1 | exact HH.out.lt.2 k hk) (below_set4 (Below.refl _ _) (by omega))
        · have f1 := HFR.out.mono (T := foot g (.slice A1 xs.length cp1)) (fun k _ hk => .inl hk)
          exact ⟨f1.os, f1.tape, f1.output, by simpa [World.setCell] using f1.size, fun k hk hn => (heap_set4 (by omega)).trans (f1.block k hk hn)⟩
      have FIN := Lib.hid fin
      clear fin
      by_cases h1 : e' = 10
      · subst h1
        go_wp2_with fail
        exact bodyPost_ret (v := .tuple #[.agg #[.int .u32 0, .int .u32 0, .bool false, .slice none 0 0], .int .i64 0]) (by simp [results, Try.results38, go_sem, *]) rfl ⟨⟨_, _, rfl, FIN.out _ rfl⟩⟩
      · by_cases h2 : e' = 12
        · subst h2
          go_wp2_with fail
          exact bodyPost_ret (v := .tuple #[.agg #[.int .u32 0, .int .u32 0, .bool false, .slice none 0 0], .int .i64 3]) (by simp [results, Try.results38, go_sem, *]) rfl ⟨⟨_, _, rfl, FIN.out _ rfl⟩⟩
        · have e0 : (e' == 0) = false := beq_eq_false_iff_ne.mpr h0
          have e1 : (e' == 10) = false := beq_eq_false_iff_ne.mpr h1
          have e2 : (e' == 12) = false := beq_eq_false_iff_ne.mpr h2
          have ec := Lib.hid (code_bad h0 h1 h2)
          go_wp2_with fail
          rw [ec.out]
          exact bodyPost_ret (v := .tuple #[.agg #[.int .u32 0, .int .u32 0, .bool false, .slice none 0 0], .int .i64 2]) (by simp [results, Try.results38, go_sem, *]) rfl ⟨⟨_, _, rfl, FIN.out _ rfl⟩⟩
end Go.Proofs.Ytajdplhmbigolaa.Fra
