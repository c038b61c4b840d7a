/- FrameMakes, walked: of every room and every row of bytes it answers true, and nothing older has turned. -/
import Derived.Test.YtajdplhmbigolaaFrh
namespace Go.Proofs.Ytajdplhmbigolaa.Fra
open Go.RowKit Go.Proofs.YtajdplhmbigolaaW.PrintWords Go.Proofs.YtajdplhmbigolaaW.PrintLast Go.Proofs.Ytajdplhmbigolaa.Octa Go.Proofs.Ytajdplhmbigolaa.Hand
set_option linter.unusedVariables false

theorem made_ok (room : Nat) (h1 : 1 ≤ room) (h2 : room ≤ 2097152) (w : World) :
    Calls Try.prog 9 #[.int .i64 room] w fun e w' => e = .returned (.tuple #[.pointer (some ⟨w.heap.size, 0, none⟩), .pointer (some ⟨w.heap.size + 1, 0, none⟩), .bool true]) ∧
      w' = (w.alloc (.cells #[.int .i64 room, .slice none 0 0, .int .u64 0] 65)).alloc (.cells #[.int .i64 room, .slice none 0 0, .int .u64 0] 32) := by
  go_enter Try.func9, Try.ntmps9
  go_wp2_with fail
  refine (New_ok room h1 h2 w).mono ?_
  rintro e w1 ⟨rfl, rfl⟩
  go_wp2_with fail
  refine (RNew_ok room h1 h2 _).mono ?_
  rintro e w2 ⟨rfl, rfl⟩
  go_wp2_with fail
  go_ret3
  exact ⟨rfl, rfl⟩
theorem made_bad (room : Int) (h : room < 1 ∨ 2097152 < room) (w : World) :
    Calls Try.prog 9 #[.int .i64 room] w fun e w' => e = .returned (.tuple #[.pointer none, .pointer none, .bool true]) ∧ w = w' := by
  go_enter Try.func9, Try.ntmps9
  go_wp2_with fail
  refine (New_bad room h w).mono ?_
  rintro e w1 ⟨rfl, rfl⟩
  go_wp2_with fail
  refine (RNew_bad room h _).mono ?_
  rintro e w2 ⟨rfl, rfl⟩
  go_wp2_with fail
  go_ret3
  exact ⟨rfl, rfl⟩

theorem Held_quiet {g : Nat} {v : Value} {room : Nat} {xs : List Int} {pass : Nat} {w : World} (h : Ib w g v room xs pass) (n : Nat) :
    Calls Try.prog 11 #[.pointer (some ⟨g, 0, none⟩)] (w.drewN n) fun e w'' => e = .returned (.int .i64 xs.length) ∧ ∃ m, w'' = w.drewN m :=
  (Held_calls g v room xs pass _ (h.drew n)).mono fun _ _ ⟨he, hw⟩ => ⟨he, n, hw.symm⟩
theorem Room_quiet {g : Nat} {v : Value} {room : Nat} {xs : List Int} {pass : Nat} {w : World} (h : Ib w g v room xs pass) (n : Nat) :
    Calls Try.prog 12 #[.pointer (some ⟨g, 0, none⟩)] (w.drewN n) fun e w'' => e = .returned (.int .i64 ((room - xs.length : Nat) : Int)) ∧ ∃ m, w'' = w.drewN m :=
  (Room_calls g v room xs pass _ (h.drew n)).mono fun _ _ ⟨he, m, hw⟩ => ⟨he, n + m, by rw [hw, World.drewN_drewN]⟩

theorem Room_quiet' {g : Nat} {v : Value} {room : Nat} {xs : List Int} {pass : Nat} {w : World} (h : Ib w g v room xs pass) (n : Nat) :
    Calls Try.prog 12 #[.pointer (some ⟨g, 0, none⟩)] (w.drewN n) fun e w'' => e = .returned (.int .i64 ((room : Int) - xs.length)) ∧ ∃ m, w'' = w.drewN m := by
  have := Room_quiet h n
  rwa [show ((room - xs.length : Nat) : Int) = (room : Int) - xs.length by have := h.fit; omega] at this

set_option maxHeartbeats 2000000 in
set_option maxRecDepth 100000 in
theorem FrameMakes_bad (room : Int) (h : room < 1 ∨ 2097152 < room) (A : Option Addr) (n c : Nat) (w : World) :
    Calls Try.prog 3 #[.int .i64 room, .slice A n c] w fun e w' => e = .returned (.bool true) ∧ Below w.heap.size w w' := by
  have H := Lib.hid h
  clear h
  go_enter Try.func3, Try.ntmps3
  go_wp2_with fail
  refine (made_bad room H.out w).mono ?_
  rintro e w1 ⟨rfl, rfl⟩
  go_wp2_with fail
  refine (heads_any w).mono ?_
  rintro e w1 ⟨rfl, hb⟩
  go_wp2_with fail
  go_ret
  exact ⟨rfl, hb⟩

set_option maxHeartbeats 2000000 in
set_option maxRecDepth 100000 in
theorem FrameMakes_ok (room : Nat) (h1 : 1 ≤ room) (h2 : room ≤ 2097152) (A : Option Addr) (c : Nat) (ys : List Int) (w : World) (hC : Kd.C (Kd.int .u8) w A ys.length ys) (hc : ys.length ≤ c) (hl : ys.length ≤ 140737488355000) :
    Calls Try.prog 3 #[.int .i64 room, .slice A ys.length c] w fun e w' => e = .returned (.bool true) ∧ Below w.heap.size w w' := by
  have HC := Lib.hid hC
  clear hC
  have HB0 : Hid (Below w.heap.size w ((w.alloc (.cells #[.int .i64 room, .slice none 0 0, .int .u64 0] 65)).alloc (.cells #[.int .i64 room, .slice none 0 0, .int .u64 0] 32))) := Lib.hid (below_alloc (below_alloc (Below.refl _ _) _) _)
  have X0 : Hid (Ib ((w.alloc (.cells #[.int .i64 room, .slice none 0 0, .int .u64 0] 65)).alloc (.cells #[.int .i64 room, .slice none 0 0, .int .u64 0] 32)) w.heap.size (.slice none 0 0) room [] 0) := Lib.hid ((Ib.new w room h1 h2).below (below_alloc (Below.refl _ _) _))
  have P0 : Hid (((w.alloc (.cells #[.int .i64 room, .slice none 0 0, .int .u64 0] 65)).alloc (.cells #[.int .i64 room, .slice none 0 0, .int .u64 0] 32)).heap[w.heap.size + 1]? = some (.cells #[.int .i64 room, .slice none 0 0, .int .u64 0] 32 (0, 0))) := Lib.hid (by simpa using blk_new (w.alloc (.cells #[.int .i64 room, .slice none 0 0, .int .u64 0] 65)) (.cells #[.int .i64 room, .slice none 0 0, .int .u64 0] 32))
  go_enter Try.func3, Try.ntmps3
  go_wp2_with fail
  refine (made_ok room h1 h2 w).mono ?_
  rintro e w1 ⟨rfl, rfl⟩
  go_wp2_with fail
  refine (heads_any _).mono ?_
  rintro e w1 ⟨rfl, hb⟩
  have X1 := Lib.hid (X0.out.below hb)
  have P1 := Lib.hid ((hb.block _ (blk_lt P0.out)).trans P0.out)
  have HB1 := Lib.hid (below_then HB0.out HB0.out.size hb)
  clear hb
  go_wp2_with fail
  refine (Held_calls w.heap.size _ room [] 0 w1 X1.out).mono ?_
  rintro e w2 ⟨rfl, rfl⟩
  go_wp2_with fail
  refine (Room_calls w.heap.size _ room [] 0 w1 X1.out).mono ?_
  rintro e w2 ⟨rfl, nq, rfl⟩
  have X2 := Lib.hid (X1.out.drew nq)
  have P2 : Hid ((w1.drewN nq).heap[w.heap.size + 1]? = _) := Lib.hid P1.out
  have HB2 : Hid (Below w.heap.size w (w1.drewN nq)) := Lib.hid (pw_below_drewN HB1.out nq)
  go_wp2_with fail
  obtain ⟨n, hn⟩ : ∃ n, n = min ys.length room := ⟨_, rfl⟩
  refine (fed_first w.heap.size w.heap.size (w.heap.size + 1) room (Nat.le_refl _) (by omega) (by omega) h1 h2 A c ys n hn _ X2.out P2.out (fun W hW => Kd.C_below HC.out (HB2.out.trans hW)) hc hl).mono ?_
  rintro e w3 ⟨rfl, v2, v3, I3, P3, O3, B3⟩
  have hzl : (ys.take n).length ≤ room := by simp; omega
  obtain ⟨A3, c3, rfl⟩ := wr_form O3
  obtain ⟨zs, hzs⟩ : ∃ zs, zs = ys.take n := ⟨_, rfl⟩
  rw [← hzs] at I3 O3 P3 hzl
  have I3' := Lib.hid I3
  have hc1 : w3.cell? ⟨w.heap.size + 1, 1, none⟩ = some (.slice A3 zs.length c3) := (blk_cell P3 1).trans rfl
  have HB3 := Lib.hid (HB2.out.trans B3)
  clear I3 O3 P3 B3 hzs hn
  have hsub : IntKind.i64.wrap ((room : Int) - (zs.length : Int)) = (room : Int) - (zs.length : Int) := IntWalk.i64_in _ (by omega)
  have hroom : ((room - zs.length : Nat) : Int) = (room : Int) - (zs.length : Int) := by omega
  have HR3 := Lib.hid hroom
  clear hroom
  go_wp2_with fail
  go_quiet ((first | (go_at_call 11; exact Held_quiet I3'.out _) | (go_at_call 12; exact Room_quiet' I3'.out _)))
  go_wp2
  go_ret
  exact ⟨rfl, pw_below_drewN HB3.out _⟩

/-- Of every room and every row of bytes. -/
theorem FrameMakes_walk (room : Int) (A : Option Addr) (c : Nat) (ys : List Int) (w : World) (hC : Kd.C (Kd.int .u8) w A ys.length ys) (hc : ys.length ≤ c) (hl : ys.length ≤ 140737488355000) :
    Calls Try.prog 3 #[.int .i64 room, .slice A ys.length c] w fun e w' => e = .returned (.bool true) ∧ Below w.heap.size w w' := by
  by_cases h : 1 ≤ room ∧ room ≤ 2097152
  · obtain ⟨n, rfl⟩ := Int.eq_ofNat_of_zero_le (Int.le_trans (by omega) h.1)
    exact FrameMakes_ok n (by omega) (by omega) A c ys w hC hc hl
  · exact FrameMakes_bad room (by omega) A ys.length c w

/-- As the row's opening tells its arguments. -/
theorem FrameMakes_row (room : Int) (a : Option Addr) (len cap : Nat) (z : List Int) (w : World) (hw : (a = none ∧ len = 0 ∧ cap = 0 ∧ z = []) ∨ ∃ x, a = some x ∧ len ≤ cap ∧ cap ≤ maxLen ∧ z.length = cap ∧ (∀ i, i < z.length → w.cell? (x.add i) = some (.int .u8 (z.getD i 0))) ∧ ∀ n ∈ z, (Lit.int .u8 n).wf = true) (hy : len * 1 ≤ 140737488351232) :
    Calls Try.prog 3 #[.int .i64 room, .slice a len cap] w fun e w' => e = .returned (.bool true) ∧ Below w.heap.size w w' := by
  obtain ⟨l0, rfl, hr0, hm0, hw0, hc0⟩ := ReadsInt.ofRowC hw
  exact FrameMakes_walk room a cap l0 w (Kd.C_of_reads (d := (0 : Int)) (h1 := fun _ => rfl) hr0) hc0 (by omega)
end Go.Proofs.Ytajdplhmbigolaa.Fra
