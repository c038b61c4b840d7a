/- frame's New, and the laws' own heads: what must come at any rate. -/
import Derived.Test.YtajdplhmbigolaaFre
namespace Go.Proofs.Ytajdplhmbigolaa.Fra
open Go.RowKit Go.Proofs.YtajdplhmbigolaaW.PrintWords Go.Proofs.YtajdplhmbigolaaW.PrintLast Go.Proofs.Ytajdplhmbigolaa.Octa Go.Proofs.Ytajdplhmbigolaa.Hand
set_option linter.unusedVariables false

theorem New_ok (room : Nat) (h1 : 1 ≤ room) (h2 : room ≤ 2097152) (w : World) :
    Calls Try.prog 15 #[.int .i64 room] w fun e w' => e = .returned (.tuple #[.pointer (some ⟨w.heap.size, 0, none⟩), .int .i64 0]) ∧ w' = w.alloc (.cells #[.int .i64 room, .slice none 0 0, .int .u64 0] 65) := by
  go_enter Try.func15, Try.ntmps15
  go_wp2
  go_ret2
  exact ⟨rfl, rfl⟩
theorem New_bad (room : Int) (h : room < 1 ∨ 2097152 < room) (w : World) :
    Calls Try.prog 15 #[.int .i64 room] w fun e w' => e = .returned (.tuple #[.pointer none, .int .i64 90]) ∧ w = w' := by
  rcases h with h | h
  · go_enter Try.func15, Try.ntmps15
    go_wp2
    go_ret2
    exact ⟨rfl, rfl⟩
  · have h' : ¬ room < 1 := by omega
    go_enter Try.func15, Try.ntmps15
    go_wp2
    go_ret2
    exact ⟨rfl, rfl⟩
/-- An inbox as New gives it. -/
theorem Ib.new (w : World) (room : Nat) (h1 : 1 ≤ room) (h2 : room ≤ 2097152) : Ib (w.alloc (.cells #[.int .i64 room, .slice none 0 0, .int .u64 0] 65)) w.heap.size (.slice none 0 0) room [] 0 :=
  ⟨blk_new w _, own_nil _ _ _ _, fun k hk => by simp [Value.ownBlock] at hk, h1, h2, Nat.zero_le _, Nat.zero_le _⟩

/-- Bytes that lie in a block from its head on. -/
theorem lit_C {w : World} {b t : Nat} {l : List Int} (h : w.heap[b]? = some (.cells (nums .u8 l).toArray t (0, 0))) (hl : l.length ≤ maxLen) : Kd.C (Kd.int .u8) w (some ⟨b, 0, none⟩) l.length l :=
  C_iff.2 ⟨rfl, by unfold maxLen at hl; omega, fun _ => ⟨_, rfl, fun j hj => by rw [add_plain]; exact (blk_cell h j).trans (by simp [nums, List.getD_eq_getElem?_getD, List.getElem?_eq_getElem hj])⟩⟩
theorem lit_C_from {w : World} {b t : Nat} {l : List Int} (k : Nat) (h : w.heap[b]? = some (.cells (nums .u8 l).toArray t (0, 0))) (hl : l.length ≤ maxLen) : Kd.C (Kd.int .u8) w (some ⟨b, k, none⟩) (l.drop k).length (l.drop k) :=
  C_iff.2 ⟨rfl, by unfold maxLen at hl; simp; omega, fun _ => ⟨_, rfl, fun j hj => by
    have : (⟨b, k, none⟩ : Addr).add j = ⟨b, k + j, none⟩ := by unfold Addr.add; split <;> simp_all
    rw [this]
    simp at hj
    exact (blk_cell h (k + j)).trans (by simp [nums, List.getD_eq_getElem?_getD, List.getElem?_eq_getElem (show k + j < l.length by omega)])⟩⟩

def hb17 : List Int := [73, 72, 65, 86, 69, 79, 80, 84, 0, 0, 0, 3, 0, 0, 0, 1, 7]
theorem hb_short : wire_DecodeOption.f (hb17.take 9) 64 = some (0, 0, false, [], 16, 10) := by kernel_rfl
theorem hb_full : wire_DecodeOption.f hb17 64 = some (3, 1, false, [7], 17, 0) := by kernel_rfl

/-- heads' own world: the inbox of room 60, the literal, and nothing older turned. -/
structure Hd (w0 w : World) (v : Value) (xs : List Int) (pass : Nat) : Prop where
  ib : Ib w w0.heap.size v 60 xs pass
  lit : w.heap[w0.heap.size + 1]? = some (.cells (nums .u8 hb17).toArray 5 (0, 0))
  bel : Below w0.heap.size w0 w
  nv : ∀ k, v.ownBlock = some k → w0.heap.size + 1 < k
theorem Hd.step {w0 w w' : World} {v v' : Value} {xs xs' : List Int} {p p' : Nat} (h : Hd w0 w v xs p) (a : After w w' w0.heap.size v v' 60 xs' p') : Hd w0 w' v' xs' p' :=
  ⟨a.ib, (a.fr.block _ (blk_lt h.lit) (fun hk => by rcases hk with hk | hk; omega; exact absurd (h.nv _ hk) (by omega))).trans h.lit,
    ⟨a.fr.os.trans h.bel.os, a.fr.tape.trans h.bel.tape, a.fr.output.trans h.bel.output, Nat.le_trans h.bel.size a.fr.size, fun k hk => (a.fr.block k (Nat.lt_of_lt_of_le hk h.bel.size) (fun hf => by rcases hf with hf | hf; omega; exact absurd (h.nv _ hf) (by omega))).trans (h.bel.block k hk)⟩,
    fun k hk => by rcases a.new k hk with h1 | h1; exact h.nv k h1; exact Nat.lt_of_lt_of_le (blk_lt h.lit) h1⟩
theorem Hd.later {w0 w w' : World} {v : Value} {xs : List Int} {p : Nat} (h : Hd w0 w v xs p) (hb : Below w.heap.size w w') : Hd w0 w' v xs p := h.step (After.of_below h.ib hb)

set_option maxHeartbeats 1000000 in
set_option maxRecDepth 100000 in
theorem heads_any (w : World) : Calls Try.prog 10 #[] w fun e w' => e = .returned (.bool true) ∧ Below w.heap.size w w' := by
  have k10 := code_10
  have k0 := code_0
  go_enter Try.func10, Try.ntmps10
  go_wp2_with fail
  refine (New_ok 60 (by omega) (by omega) w).mono ?_
  rintro e w1 ⟨rfl, rfl⟩
  go_wp2_with fail
  have H0 : Hd w ((w.alloc (.cells #[.int .i64 (60 : Nat), .slice none 0 0, .int .u64 0] 65)).alloc (.cells (nums .u8 hb17).toArray 5)) (.slice none 0 0) [] 0 :=
    ⟨(Ib.new w 60 (by omega) (by omega)).below (below_alloc (Below.refl _ _) _), by simpa using blk_new (w.alloc (.cells #[.int .i64 (60 : Nat), .slice none 0 0, .int .u64 0] 65)) (.cells (nums .u8 hb17).toArray 5), below_alloc (below_alloc (Below.refl _ _) _) _, fun k hk => by simp [Value.ownBlock] at hk⟩
  refine (Feed_at w.heap.size (.slice none 0 0) 60 [] 0 (some ⟨w.heap.size + 1, 0, none⟩) 17 (hb17.take 9) 0 9 rfl rfl _ H0.ib (Kd.C_take (lit_C H0.lit (by decide)) (by decide)) (by decide) (by decide)).mono ?_
  rintro e w2 ⟨v2, rfl, I2, F2, N2⟩
  have H1 : Hid (Hd w w2 v2 (hb17.take 9) 0) := Lib.hid (H0.step ⟨I2, F2, N2⟩)
  clear H0 I2 F2 N2
  go_wp2_with fail
  refine (Option_plain w.heap.size v2 60 (hb17.take 9) 64 _ H1.out.ib 0 0 false [] 16 10 hb_short (by decide) (fun h => absurd h (by decide))).mono ?_
  rintro e w3 ⟨v3, u3, rfl, R3, A3⟩
  obtain ⟨a3, c3, rfl⟩ := Kd.R_slice R3
  have H2 : Hid (Hd w w3 v3 (hb17.take 9) 0) := Lib.hid (H1.out.step A3)
  clear H1 A3 R3
  go_wp2_with fail
  refine (Feed_at w.heap.size v3 60 (hb17.take 9) 0 (some ⟨w.heap.size + 1, 9, none⟩) 8 (hb17.drop 9) 0 8 rfl rfl _ (H2.out.later (below_alloc (Below.refl _ _) _)).ib (lit_C_from 9 (H2.out.later (below_alloc (Below.refl _ _) _)).lit (by decide)) (by decide) (by decide)).mono ?_
  rintro e w4 ⟨v4, rfl, I4, F4, N4⟩
  have H3 : Hid (Hd w w4 v4 hb17 0) := Lib.hid ((H2.out.later (below_alloc (Below.refl _ _) _)).step ⟨I4, F4, N4⟩)
  clear H2 I4 F4 N4
  go_wp2_with fail
  refine (Option_plain w.heap.size v4 60 hb17 64 _ H3.out.ib 3 1 false [7] 17 0 hb_full (by decide) (fun h => by decide)).mono ?_
  rintro e w5 ⟨v5, u5, rfl, R5, A5⟩
  obtain ⟨a5, c5, rfl⟩ := Kd.R_slice R5
  have H4 : Hid (Hd w w5 v5 [] 0) := Lib.hid (H3.out.step A5)
  have hc5 := (Kd.R_reads' R5).2.2
  obtain ⟨ad, rfl, hcs⟩ := C_cells hc5 (by decide)
  have hcell : w5.cell? ad = some (.int .u8 7) := by simpa [Addr.add] using hcs 0 _ rfl
  have had : ad.block < w5.heap.size := World.block_lt_of_cell? w5 _ hcell
  clear H3 A5 R5 hc5 hcs
  go_wp2_with fail
  have H5 : Hid (∀ o : Obj, Hd w (w5.alloc o) v5 [] 0) := Lib.hid fun o => H4.out.later (below_alloc (Below.refl _ _) o)
  refine (Held_calls w.heap.size v5 60 [] 0 _ (H5.out _).ib).mono ?_
  rintro e w6 ⟨rfl, rfl⟩
  go_wp2_with fail
  refine (Room_calls w.heap.size v5 60 [] 0 _ (H5.out _).ib).mono ?_
  rintro e w6 ⟨rfl, nq, rfl⟩
  go_wp2_with fail
  go_ret
  exact ⟨rfl, pw_below_drewN (H5.out _).bel _⟩
end Go.Proofs.Ytajdplhmbigolaa.Fra
