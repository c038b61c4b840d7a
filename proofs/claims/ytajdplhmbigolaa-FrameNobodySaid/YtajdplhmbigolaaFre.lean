/- The inbox's Option: what it answers, and what it leaves. -/
import Derived.Test.YtajdplhmbigolaaFrd
namespace Go.Proofs.Ytajdplhmbigolaa.Fra
open Go.RowKit Go.Proofs.YtajdplhmbigolaaW.PrintWords Go.Proofs.YtajdplhmbigolaaW.PrintLast Go.Proofs.Ytajdplhmbigolaa.Octa Go.Proofs.Ytajdplhmbigolaa.Hand
set_option linter.unusedVariables false

set_option maxHeartbeats 1000000 in
set_option maxRecDepth 100000 in
theorem Option_any (g : Nat) (v : Value) (room : Nat) (xs : List Int) (most : Int) (w : World) (h : Ib w g v room xs 0) (r1 r2 : Int) (r3 : Bool) (r4 : List Int) (n' e' : Int) (p' : Nat)
    (hone : ∀ (W : World) (bm bx : Nat) A c, Ib W g v room xs 0 → W.cell? ⟨bm, 0, none⟩ = some (.int .u32 most) → W.cell? ⟨bx, 0, none⟩ = some (.pointer (some ⟨g, 0, none⟩)) → v = .slice A xs.length c →
      Calls Try.prog 36 #[.slice A xs.length xs.length, .pointer (some ⟨bm, 0, none⟩), .pointer (some ⟨bx, 0, none⟩)] W fun e w' => Opt1 W g v room xs r1 r2 r3 r4 n' e' p' e w')
    (hd : e' = 0 → 0 ≤ n' ∧ n' ≤ xs.length) :
    Calls Try.prog 18 #[.pointer (some ⟨g, 0, none⟩), .int .u32 most] w fun e w' =>
      CutOpt w g v room (if e' = 0 then xs.drop n'.toNat else xs) p' (if e' = 0 then r1 else 0) (if e' = 0 then r2 else 0) (if e' = 0 then r3 else false) (if e' = 0 then r4 else []) (code e') e w' := by
  have hgl : g < w.heap.size := h.lt.1
  have X0 : Hid ((((w.alloc (.cells #[.pointer (some ⟨g, 0, none⟩)] 23)).alloc (.cells #[.int .u32 most] 34)).alloc (.cells #[.int .u32 0, .int .u32 0, .bool false, .slice none 0 0] 40)).heap[w.heap.size]? = some (.cells #[.pointer (some ⟨g, 0, none⟩)] 23)) := Lib.hid (blk_alloc (blk_alloc (blk_new w _) _) _)
  have X1 : Hid ((((w.alloc (.cells #[.pointer (some ⟨g, 0, none⟩)] 23)).alloc (.cells #[.int .u32 most] 34)).alloc (.cells #[.int .u32 0, .int .u32 0, .bool false, .slice none 0 0] 40)).heap[w.heap.size + 1]? = some (.cells #[.int .u32 most] 34)) := Lib.hid (by simpa using blk_alloc (blk_new (w.alloc (.cells #[.pointer (some ⟨g, 0, none⟩)] 23)) (.cells #[.int .u32 most] 34)) (.cells #[.int .u32 0, .int .u32 0, .bool false, .slice none 0 0] 40))
  have X2 : Hid ((((w.alloc (.cells #[.pointer (some ⟨g, 0, none⟩)] 23)).alloc (.cells #[.int .u32 most] 34)).alloc (.cells #[.int .u32 0, .int .u32 0, .bool false, .slice none 0 0] 40)).heap[w.heap.size + 1 + 1]? = some (.cells #[.int .u32 0, .int .u32 0, .bool false, .slice none 0 0] 40)) := Lib.hid (by simpa using blk_new ((w.alloc (.cells #[.pointer (some ⟨g, 0, none⟩)] 23)).alloc (.cells #[.int .u32 most] 34)) (.cells #[.int .u32 0, .int .u32 0, .bool false, .slice none 0 0] 40))
  have HB : Hid (∀ a b c : Obj, Below w.heap.size w (((w.alloc a).alloc b).alloc c)) := Lib.hid fun a b c => below_alloc (below_alloc (below_alloc (Below.refl _ _) _) _) _
  have HH := Lib.hid h
  have HO := Lib.hid hone
  have HD := Lib.hid hd
  clear h hone hd
  obtain ⟨q0, Q0⟩ : ∃ q, Hid (q = if e' = 0 then xs.drop n'.toNat else xs) := ⟨_, Lib.hid rfl⟩
  obtain ⟨q1, Q1⟩ : ∃ q, Hid (q = if e' = 0 then r1 else 0) := ⟨_, Lib.hid rfl⟩
  obtain ⟨q2, Q2⟩ : ∃ q, Hid (q = if e' = 0 then r2 else 0) := ⟨_, Lib.hid rfl⟩
  obtain ⟨q3, Q3⟩ : ∃ q, Hid (q = if e' = 0 then r3 else false) := ⟨_, Lib.hid rfl⟩
  obtain ⟨q4, Q4⟩ : ∃ q, Hid (q = if e' = 0 then r4 else []) := ⟨_, Lib.hid rfl⟩
  rw [← Q0.out, ← Q1.out, ← Q2.out, ← Q3.out, ← Q4.out]
  go_enter Try.func18, Try.ntmps18
  go_wp2_with fail
  refine (of_opt g (w.heap.size + 1) w.heap.size v room xs _ (HH.out.below (HB.out _ _ _)) r1 r2 r3 r4 n' e' p' (fun W hW A c hv => HO.out W _ _ A c ((HH.out.below (HB.out _ _ _)).below hW) ?_ ?_ hv) HD.out).mono ?_
  · exact pw_cell_below hW ((blk_cell X1.out 0).trans rfl)
  · exact pw_cell_below hW ((blk_cell X0.out 0).trans rfl)
  rintro e w1 ⟨v', v_, he, hR, hA⟩
  rw [← Q1.out, ← Q2.out, ← Q3.out] at he
  rw [← Q4.out] at hR
  rw [← Q0.out] at hA
  subst he
  obtain ⟨A', c', rfl⟩ := Kd.R_slice hR
  have m2 := (hA.fr.block (w.heap.size + 1 + 1) (blk_lt X2.out) (fun hk => by rcases hk with hk | hk; omega; exact absurd (HH.out.lt.2 _ hk) (by omega))).trans X2.out
  have c2 : ∀ o, w1.cell? ⟨w.heap.size + 1 + 1, o, none⟩ = _ := fun o => blk_cell m2 o
  have f2 : ∀ o, w1.frozen? ⟨w.heap.size + 1 + 1, o, none⟩ = false := fun o => blk_frozen m2 o
  have HR := Lib.hid hR
  have HA := Lib.hid hA
  clear hR hA m2
  go_wp2_with fail
  refine bodyPost_ret (v := .tuple #[.agg #[.int .u32 q1, .int .u32 q2, .bool q3, .slice A' q4.length c'], .int .i64 (code e')]) (by simp [results, Try.results18, go_sem, *]) rfl ⟨⟨v', _, rfl, ?_, ?_⟩⟩
  · have h1 : Kd.R (Kd.int .u8) 5 w1 (w.heap.size + 1 + 1 + 1) (fun k => v'.ownBlock ≠ some k) (.slice A' q4.length c') q4 := by simpa using HR.out
    exact Kd.R_lower (R_setlow (R_setlow (R_setlow (R_setlow h1 (by omega) _) (by omega) _) (by omega) _) (by omega) _) (by omega)
  · have hA := HA.out
    have hnew : ∀ k, v'.ownBlock = some k → v.ownBlock = some k ∨ w.heap.size + 1 + 1 + 1 ≤ k := fun k hk => by have := hA.new k hk; simpa using this
    refine ⟨hA.ib.move fun k hk => heap_set4 ?_, ?_, fun k hk => (hnew k hk).imp id (fun h => by omega)⟩
    · rcases hk with rfl | hk
      · omega
      · rcases hnew k hk with h1 | h1
        · have := HH.out.lt.2 _ h1; omega
        · omega
    · have f1 := (Fr.of_below (S := foot g v) (HB.out (.cells #[.pointer (some ⟨g, 0, none⟩)] 23) (.cells #[.int .u32 most] 34) (.cells #[.int .u32 0, .int .u32 0, .bool false, .slice none 0 0] 40))).trans hA.fr
      exact ⟨f1.os, f1.tape, f1.output, by simpa [World.setCell] using f1.size, fun k hk hn => (heap_set4 (by omega)).trans (f1.block k hk hn)⟩

/-- An option that is not too long, and what is none. -/
theorem Option_plain (g : Nat) (v : Value) (room : Nat) (xs : List Int) (most : Int) (w : World) (h : Ib w g v room xs 0) (r1 r2 : Int) (r3 : Bool) (r4 : List Int) (r5 r6 : Int) (hf : wire_DecodeOption.f xs most = some (r1, r2, r3, r4, r5, r6)) (h12 : ¬ r6 = 12) (hd : r6 = 0 → 0 ≤ r5 ∧ r5 ≤ xs.length) :
    Calls Try.prog 18 #[.pointer (some ⟨g, 0, none⟩), .int .u32 most] w fun e w' =>
      CutOpt w g v room (if r6 = 0 then xs.drop r5.toNat else xs) 0 (if r6 = 0 then r1 else 0) (if r6 = 0 then r2 else 0) (if r6 = 0 then r3 else false) (if r6 = 0 then r4 else []) (code r6) e w' :=
  Option_any g v room xs most w h r1 r2 r3 r4 r5 r6 0 (fun W bm bx A c hI hm hx hv => by
    subst hv
    exact opt1_plain g bm bx _ room xs A xs.length xs most W hI hm hx hI.C.1 (Nat.le_refl _) r1 r2 r3 r4 r5 r6 hf h12) hd

/-- One that is too long. -/
theorem Option_long (g : Nat) (v : Value) (room : Nat) (xs : List Int) (most : Int) (w : World) (h : Ib w g v room xs 0) (r1 : Int) (k : Nat) (r3 : Bool) (r4 : List Int) (n : Nat) (hk : k ≤ 4294967295) (hn : n ≤ xs.length) (hf : wire_DecodeOption.f xs most = some (r1, (k : Int), r3, r4, (n : Int), 12)) :
    Calls Try.prog 18 #[.pointer (some ⟨g, 0, none⟩), .int .u32 most] w fun e w' =>
      CutOpt w g v room (xs.drop (n + min (xs.length - n) k)) (k - min (xs.length - n) k) r1 k r3 r4 1 e w' :=
  (Option_any g v room xs most w h r1 k r3 r4 ((n + min (xs.length - n) k : Nat) : Int) 0 (k - min (xs.length - n) k) (fun W bm bx A c hI hm hx hv => by
    subst hv
    exact opt1_long g bm bx _ room xs A xs.length xs most W hI hm hx hI.C.1 (Nat.le_refl _) (Nat.le_trans h.fit h.r2) r1 k r3 r4 n hk hn hf) (fun _ => ⟨by omega, by omega⟩)).mono fun e w' hh => hh
end Go.Proofs.Ytajdplhmbigolaa.Fra
