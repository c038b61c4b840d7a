/- The document's inbox (New, its first Feed), and the laws' helpers Copy, Same, lend. -/
import Derived.Test.YtajdplhmbigolaaFrf
namespace Go.Proofs.Ytajdplhmbigolaa.Fra
open Go.RowKit Go.Proofs.YtajdplhmbigolaaW.PrintWords Go.Proofs.YtajdplhmbigolaaW.PrintLast Go.Proofs.Ytajdplhmbigolaa.Octa Go.Proofs.Ytajdplhmbigolaa.Hand
set_option linter.unusedVariables false

theorem RNew_ok (room : Nat) (h1 : 1 ≤ room) (h2 : room ≤ 2097152) (w : World) :
    Calls Try.prog 26 #[.int .i64 room] w fun e w' => e = .returned (.tuple #[.pointer (some ⟨w.heap.size, 0, none⟩), .int .i64 0]) ∧ w' = w.alloc (.cells #[.int .i64 room, .slice none 0 0, .int .u64 0] 32) := by
  go_enter Try.func26, Try.ntmps26
  go_wp2
  go_ret2
  exact ⟨rfl, rfl⟩
theorem RNew_bad (room : Int) (h : room < 1 ∨ 2097152 < room) (w : World) :
    Calls Try.prog 26 #[.int .i64 room] w fun e w' => e = .returned (.tuple #[.pointer none, .int .i64 90]) ∧ w = w' := by
  rcases h with h | h
  · go_enter Try.func26, Try.ntmps26
    go_wp2
    go_ret2
    exact ⟨rfl, rfl⟩
  · have h' : ¬ room < 1 := by omega
    go_enter Try.func26, Try.ntmps26
    go_wp2
    go_ret2
    exact ⟨rfl, rfl⟩

/-- Behind the append to the document's row, and the store of what came of it. -/
theorem rfed_put {w wx w' : World} {p room : Nat} {v' : Value} {zs : List Int} (hb : w.heap[p]? = some (.cells #[.int .i64 room, .slice none 0 0, .int .u64 0] 32 (0, 0))) (hx : wx.heap = (w.setCell ⟨p, 2, none⟩ (.int .u64 0)).heap) (hq : wx.os = w.os ∧ wx.tape = w.tape ∧ wx.output = w.output) (hgrow : wx.grownBy w' (Value.slice none 0 0).ownBlock)
    (hown : w'.ownsRow 0 5 1 v' zs.length (nums .u8 zs)) (hnew : ∀ k, v'.ownBlock = some k → (Value.slice none 0 0).ownBlock = some k ∨ wx.heap.size ≤ k) :
    w'.heap[p]? = some (.cells #[.int .i64 room, .slice none 0 0, .int .u64 0] 32 (0, 0)) ∧ (w'.setCell ⟨p, 1, none⟩ v').heap[p]? = some (.cells #[.int .i64 room, v', .int .u64 0] 32 (0, 0)) ∧ (w'.setCell ⟨p, 1, none⟩ v').ownsRow 0 5 1 v' zs.length (nums .u8 zs) ∧ Fr (· = p) w (w'.setCell ⟨p, 1, none⟩ v') ∧ ∀ k, v'.ownBlock = some k → w.heap.size ≤ k := by
  have hs : wx.heap.size = w.heap.size := by rw [hx]; simp [World.setCell]
  have hlt : p < w.heap.size := blk_lt hb
  have hg : w'.heap[p]? = some (.cells #[.int .i64 room, .slice none 0 0, .int .u64 0] 32 (0, 0)) := by
    rw [hgrow.block p (by omega) (by simp [Value.ownBlock]), hx, blk_set hb]; rfl
  have hn : ∀ k, v'.ownBlock = some k → w.heap.size ≤ k := fun k hk => by
    rcases hnew k hk with h1 | h1
    · simp [Value.ownBlock] at h1
    · omega
  refine ⟨hg, by rw [blk_set hg]; rfl, own_move hown fun k hk => Below.heap_setCell _ _ _ _ (by have := hn k hk; simp; omega), ⟨hgrow.os.trans hq.1, hgrow.tape.trans hq.2.1, hgrow.output.trans hq.2.2, ?_, fun k hk hne => ?_⟩, hn⟩
  · have := hgrow.size; simp [World.setCell]; omega
  · rw [Below.heap_setCell _ _ _ _ hne, hgrow.block k (by omega) (by simp [Value.ownBlock]), hx, Below.heap_setCell _ _ _ _ hne]

/-- The document's inbox behind its first Feed. -/
structure RFed (w : World) (p room : Nat) (xs : List Int) (n : Nat) (e : Ending) (w' : World) : Prop where
  out : ∃ v', e = .returned (.int .i64 n) ∧ w'.heap[p]? = some (.cells #[.int .i64 room, v', .int .u64 0] 32 (0, 0)) ∧ w'.ownsRow 0 5 1 v' xs.length (nums .u8 xs) ∧ Fr (· = p) w w' ∧ ∀ k, v'.ownBlock = some k → w.heap.size ≤ k

set_option maxHeartbeats 1000000 in
set_option maxRecDepth 100000 in
theorem RFeed_first (p room : Nat) (hr1 : 1 ≤ room) (hr2 : room ≤ 2097152) (A : Option Addr) (c : Nat) (ys : List Int) (n : Nat) (hn : n = min ys.length room) (w : World) (hb : w.heap[p]? = some (.cells #[.int .i64 room, .slice none 0 0, .int .u64 0] 32 (0, 0)))
    (hC : Kd.C (Kd.int .u8) w A ys.length ys) (hc : ys.length ≤ c) :
    Calls Try.prog 29 #[.pointer (some ⟨p, 0, none⟩), .slice A ys.length c] w fun e w' => RFed w p room (ys.take n) n e w' := by
  obtain ⟨i0, hi, hz0, hz1, hz2⟩ := info_parts info_u8
  have hlen : ys.length ≤ 9223372036854775807 := hC.2.1
  have hc0 : w.cell? ⟨p, 0, none⟩ = some _ := (blk_cell hb 0).trans rfl
  have hc1 : w.cell? ⟨p, 1, none⟩ = some _ := (blk_cell hb 1).trans rfl
  have hc2 : w.cell? ⟨p, 2, none⟩ = some _ := (blk_cell hb 2).trans rfl
  have hf1 : w.frozen? ⟨p, 1, none⟩ = false := blk_frozen hb 1
  have hf2 : w.frozen? ⟨p, 2, none⟩ = false := blk_frozen hb 2
  obtain ⟨A', hrun, hCC, hcc⟩ := C_mid A c ys 0 n (by omega) hc
  obtain ⟨zs, HZ⟩ : ∃ zs, Hid (zs = (ys.take (0 + n)).drop 0) := ⟨_, Lib.hid rfl⟩
  have hzs : ys.take n = zs := by rw [HZ.out]; simp
  rw [← HZ.out] at hrun hCC hcc
  rw [hzs]
  have hzl : zs.length = n := by rw [← hzs]; simp; omega
  have HZL := Lib.hid hzl
  have HC := Lib.hid hC
  have HB := Lib.hid hb
  have HCC := Lib.hid hCC
  have HN := Lib.hid hn
  have hn1 : n ≤ ys.length := by omega
  have hn2 : n ≤ room := by omega
  simp only [Int.natCast_zero, Int.zero_add, Nat.sub_zero] at hrun
  clear hb hC hCC hn hzl hzs
  rcases Nat.eq_zero_or_pos ys.length with h0 | h0
  · obtain rfl : ys = [] := List.eq_nil_of_length_eq_zero h0
    obtain rfl : n = 0 := by have := HN.out; simp at this; omega
    obtain rfl : zs = [] := List.eq_nil_of_length_eq_zero HZL.out
    have hw : IntKind.i64.wrap 0 = 0 := IntWalk.i64_in _ (by omega)
    simp only [List.length_nil, Int.natCast_zero] at hrun
    go_enter Try.func29, Try.ntmps29
    go_wp2_with fail
    go_quiet (fail)
    go_wp2_with fail
    go_region_law (refine step_append_bytes rfl (.tmp 61) (.tmp 67) 22 rfl 5 i0 (.int .u8 0) Try.underlying22 hi hz0 hz1 hz2 rfl (.slice none 0 0) [] rfl (own_nil _ _ _ _) A' ([] : List Int) _ rfl (HCC.out _ (C_heap (C_set HC.out hc2 (by intro x e; cases e) (.int .u64 0)) (by rfl))) (by have := HZL.out; first | (simp; done) | (simp; omega)) ?_; intro v' w' hown hgrow hnew; (have Z := rfed_put HB.out (by exact rfl) (by exact ⟨rfl, rfl, rfl⟩) hgrow hown hnew); (obtain ⟨A2, cp2, rfl⟩ := wr_form hown); clear hown hgrow hnew; (have hcz : w'.cell? ⟨p, 1, none⟩ = some _ := (blk_cell Z.1 1).trans rfl); (have hfz : w'.frozen? ⟨p, 1, none⟩ = false := blk_frozen Z.1 1); (have ZZ := Lib.hid Z.2); clear Z)
    all_goals
      go_wp2
      go_ret
      have Z2 := ZZ.out
      simp only [List.nil_append] at Z2
      exact ⟨⟨_, rfl, Z2⟩⟩
  · rcases Nat.lt_or_ge room ys.length with h1 | h1
    · obtain rfl : n = room := by have := HN.out; omega
      have hw : IntKind.i64.wrap (n : Int) = (n : Int) := IntWalk.i64_in _ (by omega)
      go_enter Try.func29, Try.ntmps29
      go_wp2_with fail
      go_quiet (fail)
      go_wp2_with fail
      go_quiet (fail)
      go_wp2_with fail
      go_region_law (refine step_append_bytes rfl (.tmp 61) (.tmp 67) 22 rfl 5 i0 (.int .u8 0) Try.underlying22 hi hz0 hz1 hz2 rfl (.slice none 0 0) [] rfl (own_nil _ _ _ _) A' zs _ rfl (HCC.out _ (C_heap (C_set HC.out hc2 (by intro x e; cases e) (.int .u64 0)) (by rfl))) (by have := HZL.out; first | (simp; done) | (simp; omega)) ?_; intro v' w' hown hgrow hnew; (have Z := rfed_put HB.out (by exact rfl) (by exact ⟨rfl, rfl, rfl⟩) hgrow hown hnew); (obtain ⟨A2, cp2, rfl⟩ := wr_form hown); clear hown hgrow hnew; (have hcz : w'.cell? ⟨p, 1, none⟩ = some _ := (blk_cell Z.1 1).trans rfl); (have hfz : w'.frozen? ⟨p, 1, none⟩ = false := blk_frozen Z.1 1); (have ZZ := Lib.hid Z.2); clear Z)
      all_goals
        go_wp2
        go_ret
        have Z2 := ZZ.out
        simp only [List.nil_append] at Z2
        exact ⟨⟨_, rfl, Z2⟩⟩
    · obtain rfl : n = ys.length := by have := HN.out; omega
      have hw : IntKind.i64.wrap (ys.length : Int) = (ys.length : Int) := IntWalk.i64_in _ (by omega)
      go_enter Try.func29, Try.ntmps29
      go_wp2_with fail
      go_quiet (fail)
      go_wp2_with fail
      go_region_law (refine step_append_bytes rfl (.tmp 61) (.tmp 67) 22 rfl 5 i0 (.int .u8 0) Try.underlying22 hi hz0 hz1 hz2 rfl (.slice none 0 0) [] rfl (own_nil _ _ _ _) A' zs _ rfl (HCC.out _ (C_heap (C_set HC.out hc2 (by intro x e; cases e) (.int .u64 0)) (by rfl))) (by have := HZL.out; first | (simp; done) | (simp; omega)) ?_; intro v' w' hown hgrow hnew; (have Z := rfed_put HB.out (by exact rfl) (by exact ⟨rfl, rfl, rfl⟩) hgrow hown hnew); (obtain ⟨A2, cp2, rfl⟩ := wr_form hown); clear hown hgrow hnew; (have hcz : w'.cell? ⟨p, 1, none⟩ = some _ := (blk_cell Z.1 1).trans rfl); (have hfz : w'.frozen? ⟨p, 1, none⟩ = false := blk_frozen Z.1 1); (have ZZ := Lib.hid Z.2); clear Z)
      all_goals
        go_wp2
        go_ret
        have Z2 := ZZ.out
        simp only [List.nil_append] at Z2
        exact ⟨⟨_, rfl, Z2⟩⟩

set_option maxHeartbeats 1000000 in
theorem Copy_calls (A : Option Addr) (c : Nat) (ys : List Int) (w : World) (hC : Kd.C (Kd.int .u8) w A ys.length ys) (hl : ys.length ≤ 140737488355328) :
    Calls Try.prog 65 #[.slice A ys.length c] w fun e w' => ∃ v, e = .returned v ∧ w'.ownsRow w.heap.size 5 1 v ys.length (nums .u8 ys) ∧ Below w.heap.size w w' := by
  obtain ⟨i0, hi, hz0, hz1, hz2⟩ := info_parts info_u8
  have HC := Lib.hid hC
  have hnil : w.ownsRow 0 5 1 (.slice none 0 0) ([] : List Int).length (nums .u8 []) := own_nil _ _ _ _
  have HN := Lib.hid hnil
  clear hC hnil
  go_enter Try.func65, Try.ntmps65
  go_wp2_with (at_builtin; go_must (refine wpList_append_bytes rfl (.tmp 4) (.tmp 5) 22 rfl 5 i0 (.int .u8 0) Try.underlying22 hi hz0 hz1 hz2 rfl (.slice none 0 0) [] rfl HN.out A ys ys.length c rfl rfl HC.out (by simp; omega) ?_); intro v' w' hown hgrow hnew; have HH := Lib.hid (And.intro hown (And.intro hgrow hnew)); clear hown hgrow hnew)
  go_ret
  obtain ⟨h1, h2, h3⟩ := HH.out
  have := fresh_R h1 h2 (fun k hk => (h3 k hk).resolve_left (by simp [Value.ownBlock]))
  exact ⟨_, rfl, own_of_R this.1, this.2⟩

set_option maxHeartbeats 1000000 in
set_option maxRecDepth 100000 in
/-- Same of the same bytes. -/
theorem Same_true (A B : Option Addr) (c d : Nat) (ys : List Int) (w : World) (hA : Kd.C (Kd.int .u8) w A ys.length ys) (hB : Kd.C (Kd.int .u8) w B ys.length ys) :
    Calls Try.prog 30 #[.slice A ys.length c, .slice B ys.length d] w fun e w' => e = .returned (.bool true) ∧ ∃ n, w' = w.drewN n := by
  have hmax : ys.length ≤ 9223372036854775807 := hA.2.1
  have hcA : ∀ j, j < ys.length → ∃ ad, A = some ad ∧ w.cell? (ad.add j) = some (.int .u8 (ys.getD j 0)) := fun j hj => by
    obtain ⟨ad, e, hc⟩ := (C_iff.1 hA).2.2 (by omega)
    exact ⟨ad, e, hc j hj⟩
  have hcB : ∀ j, j < ys.length → ∃ ad, B = some ad ∧ w.cell? (ad.add j) = some (.int .u8 (ys.getD j 0)) := fun j hj => by
    obtain ⟨ad, e, hc⟩ := (C_iff.1 hB).2.2 (by omega)
    exact ⟨ad, e, hc j hj⟩
  have HA := Lib.hid hcA
  have HB := Lib.hid hcB
  clear hA hB hcA hcB
  go_enter Try.func30, Try.ntmps30
  go_wp2
  go_loopw [5] (fun i wr => ∃ k n : Nat, k ≤ ys.length ∧ i = .int .i64 k ∧ wr = w.drewN n) (fun i _ => ys.length - (intOf i).toNat)
  case atStart => exact ⟨0, 0, Nat.zero_le _, rfl, rfl⟩
  case round =>
    obtain ⟨k, n, hk, rfl, rfl⟩ := hrel
    by_cases hlt : k < ys.length
    · obtain ⟨a1, rfl, ca⟩ := HA.out k hlt
      obtain ⟨b1, rfl, cb⟩ := HB.out k hlt
      obtain ⟨x, hx⟩ : ∃ x, x = ys.getD k 0 := ⟨_, rfl⟩
      rw [← hx] at ca cb
      have hne : (x != x) = false := by simp
      clear hx
      go_wp2
      go_quiet (fail)
      go_wp2
      go_roundw
      case rel => exact ⟨k + 1, _, by omega, by go_num, rfl⟩
      case measure => simp [intOf]; omega
    · obtain rfl : k = ys.length := by omega
      go_wp2
      go_ret
      exact ⟨rfl, _, rfl⟩
end Go.Proofs.Ytajdplhmbigolaa.Fra
