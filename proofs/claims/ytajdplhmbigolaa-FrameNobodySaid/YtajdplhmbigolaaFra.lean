/- The frame inbox: contracts of New, Held, Room, Feed and drop over memory, for every inbox that frame made. -/
import Derived.Test.YtajdplhmbigolaaOctd
import Derived.Outline
namespace Go.Proofs.Ytajdplhmbigolaa.Fra
open Go.RowKit Go.Proofs.YtajdplhmbigolaaW.PrintWords Go.Proofs.YtajdplhmbigolaaW.PrintLast Go.Proofs.Ytajdplhmbigolaa.Octa

/-- An inbox at block g with its room, the row v of the bytes xs that it holds, and so many bytes to pass over. -/
structure Ib (w : World) (g : Nat) (v : Value) (room : Nat) (xs : List Int) (pass : Nat) : Prop where
  blk : w.heap[g]? = some (.cells #[.int .i64 room, v, .int .u64 pass] 65 (0, 0))
  own : w.ownsRow 0 5 1 v xs.length (nums .u8 xs)
  ne : ∀ k, v.ownBlock = some k → k ≠ g
  r1 : 1 ≤ room
  r2 : room ≤ 2097152
  fit : xs.length ≤ room
  ps : pass ≤ 4294967295

/-- The blocks of an inbox. -/
def foot (g : Nat) (v : Value) (k : Nat) : Prop := k = g ∨ v.ownBlock = some k

theorem Ib.lt {w : World} {g : Nat} {v : Value} {room : Nat} {xs : List Int} {pass : Nat} (h : Ib w g v room xs pass) : g < w.heap.size ∧ ∀ k, v.ownBlock = some k → k < w.heap.size :=
  ⟨blk_lt h.blk, fun k hk => own_lt h.own k hk⟩
theorem Ib.move {w w' : World} {g : Nat} {v : Value} {room : Nat} {xs : List Int} {pass : Nat} (h : Ib w g v room xs pass) (hk : ∀ k, foot g v k → w'.heap[k]? = w.heap[k]?) : Ib w' g v room xs pass :=
  ⟨(hk g (.inl rfl)).trans h.blk, own_move h.own fun k e => hk k (.inr e), h.ne, h.r1, h.r2, h.fit, h.ps⟩
theorem Ib.below {w w' : World} {g : Nat} {v : Value} {room : Nat} {xs : List Int} {pass : Nat} (h : Ib w g v room xs pass) (hb : Below w.heap.size w w') : Ib w' g v room xs pass :=
  h.move fun k hk => hb.block k (by rcases hk with rfl | hk <;> first | exact h.lt.1 | exact h.lt.2 k hk)
theorem Ib.fr {w w' : World} {S : Nat → Prop} {g : Nat} {v : Value} {room : Nat} {xs : List Int} {pass : Nat} (h : Ib w g v room xs pass) (hf : Fr S w w') (hn : ∀ k, foot g v k → ¬ S k) : Ib w' g v room xs pass :=
  h.move fun k hk => hf.block k (by rcases hk with rfl | hk <;> first | exact h.lt.1 | exact h.lt.2 k hk) (hn k hk)
theorem Ib.drew {w : World} {g : Nat} {v : Value} {room : Nat} {xs : List Int} {pass : Nat} (h : Ib w g v room xs pass) (n : Nat) : Ib (w.drewN n) g v room xs pass := h.move fun _ _ => rfl

theorem made_any (g : Nat) (room : Nat) (v u : Value) (w : World) (hr : 1 ≤ room) (hr2 : room ≤ 2097152) (h : w.heap[g]? = some (.cells #[.int .i64 room, v, u] 65 (0, 0))) :
    Calls Try.prog 27 #[.pointer (some ⟨g, 0, none⟩)] w fun e w' => e = .returned (.bool true) ∧ w = w' := by
  have hc : w.cell? ⟨g, 0, none⟩ = some (.int .i64 room) := (blk_cell h 0).trans rfl
  clear h
  have hd : decide ((room : Int) > 0) = true := by simp; omega
  go_enter Try.func27, Try.ntmps27
  go_wp2
  go_ret
  exact ⟨by simp; omega, rfl⟩

theorem Held_calls (g : Nat) (v : Value) (room : Nat) (xs : List Int) (pass : Nat) (w : World) (h : Ib w g v room xs pass) :
    Calls Try.prog 11 #[.pointer (some ⟨g, 0, none⟩)] w fun e w' => e = .returned (.int .i64 xs.length) ∧ w = w' := by
  obtain ⟨hb, ho, hne, hr1, hr2, hfit, hps⟩ := h
  obtain ⟨A1, cp1, rfl⟩ := wr_form ho
  have hc1 : w.cell? ⟨g, 1, none⟩ = some _ := (blk_cell hb 1).trans rfl
  have HB := Lib.hid hb
  clear ho hne hb
  go_enter Try.func11, Try.ntmps11
  go_wp2_with (go_at_call 27; go_must (refine (made_any g room _ _ _ hr1 hr2 HB.out).mono ?_); rintro e w' ⟨rfl, rfl⟩)
  go_ret
  exact ⟨rfl, rfl⟩

theorem Room_calls (g : Nat) (v : Value) (room : Nat) (xs : List Int) (pass : Nat) (w : World) (h : Ib w g v room xs pass) :
    Calls Try.prog 12 #[.pointer (some ⟨g, 0, none⟩)] w fun e w' => e = .returned (.int .i64 ((room - xs.length : Nat) : Int)) ∧ ∃ n, w' = w.drewN n := by
  obtain ⟨hb, ho, hne, hr1, hr2, hfit, hps⟩ := h
  obtain ⟨A1, cp1, rfl⟩ := wr_form ho
  have hc1 : w.cell? ⟨g, 1, none⟩ = some _ := (blk_cell hb 1).trans rfl
  have hc0 : w.cell? ⟨g, 0, none⟩ = some _ := (blk_cell hb 0).trans rfl
  have HB := Lib.hid hb
  clear ho hne hb
  go_enter Try.func12, Try.ntmps12
  go_wp2_with (go_at_call 27; go_must (refine (made_any g room _ _ _ hr1 hr2 HB.out).mono ?_); rintro e w' ⟨rfl, rfl⟩)
  go_quiet (fail)
  go_wp2
  go_ret
  refine ⟨?_, _, rfl⟩
  show Ending.returned (.int .i64 ((room : Int) - xs.length)) = _
  congr 2
  omega

theorem Ib.setpass {w : World} {g : Nat} {v : Value} {room : Nat} {xs : List Int} {pass : Nat} (h : Ib w g v room xs pass) (p : Nat) (hp : p ≤ 4294967295) (u : Int) (hu : u = p) : Ib (w.setCell ⟨g, 2, none⟩ (.int .u64 u)) g v room xs p := by
  subst hu
  exact ⟨by rw [blk_set h.blk]; rfl, own_move h.own fun k hk => Below.heap_setCell _ _ _ _ (h.ne k hk), h.ne, h.r1, h.r2, h.fit, hp⟩

/-- Behind an append to an inbox's row, and the store of what came of it. -/
theorem Ib.put {w wx w' : World} {g : Nat} {v v' : Value} {room : Nat} {xs zs : List Int} {pass : Nat} (h : Ib w g v room xs pass) (hx : wx.heap = w.heap) (hq : wx.os = w.os ∧ wx.tape = w.tape ∧ wx.output = w.output) (hgrow : wx.grownBy w' v.ownBlock)
    (hown : w'.ownsRow 0 5 1 v' (xs ++ zs).length (nums .u8 (xs ++ zs))) (hnew : ∀ k, v'.ownBlock = some k → v.ownBlock = some k ∨ wx.heap.size ≤ k) (hl : zs.length ≤ room - xs.length) :
    w'.heap[g]? = some (.cells #[.int .i64 room, v, .int .u64 pass] 65 (0, 0)) ∧ Ib (w'.setCell ⟨g, 1, none⟩ v') g v' room (xs ++ zs) pass ∧ Fr (foot g v) w (w'.setCell ⟨g, 1, none⟩ v') ∧ ∀ k, v'.ownBlock = some k → v.ownBlock = some k ∨ w.heap.size ≤ k := by
  have hg : w'.heap[g]? = some (.cells #[.int .i64 room, v, .int .u64 pass] 65 (0, 0)) := by
    rw [hgrow.block g (by rw [hx]; exact h.lt.1) (fun e => h.ne g e.symm rfl), hx]; exact h.blk
  have hne : ∀ k, v'.ownBlock = some k → k ≠ g := fun k hk e => by
    rcases hnew k hk with h1 | h1
    · exact h.ne k h1 e
    · have := h.lt.1; rw [hx] at h1; omega
  refine ⟨hg, ⟨by rw [blk_set hg]; rfl, own_move hown fun k hk => Below.heap_setCell _ _ _ _ (hne k hk), hne, h.r1, h.r2, by have := h.fit; simp; omega, h.ps⟩, ⟨hgrow.os.trans hq.1, hgrow.tape.trans hq.2.1, hgrow.output.trans hq.2.2, ?_, fun k hk hn => ?_⟩, fun k hk => by rw [← hx]; exact hnew k hk⟩
  · have := hgrow.size; rw [hx] at this; simpa [World.setCell] using this
  · rw [Below.heap_setCell _ _ _ _ (fun e => hn (.inl e)), hgrow.block k (by rw [hx]; exact hk) (fun e => hn (.inr e.symm)), hx]

set_option maxHeartbeats 1000000 in
set_option maxRecDepth 100000 in
theorem Feed_at (g : Nat) (v : Value) (room : Nat) (xs : List Int) (pass : Nat) (A : Option Addr) (c : Nat) (ys : List Int) (over n : Nat) (hov : over = min pass ys.length) (hn : n = min (ys.length - over) (room - xs.length))
    (w : World) (h : Ib w g v room xs pass) (hC : Kd.C (Kd.int .u8) w A ys.length ys) (hc : ys.length ≤ c) (hcm : c ≤ maxLen) :
    Calls Try.prog 17 #[.pointer (some ⟨g, 0, none⟩), .slice A ys.length c] w fun e w' => ∃ v',
      e = .returned (.int .i64 ((over + n : Nat) : Int)) ∧ Ib w' g v' room (xs ++ (ys.take (over + n)).drop over) (pass - over) ∧ Fr (foot g v) w w' ∧ ∀ k, v'.ownBlock = some k → v.ownBlock = some k ∨ w.heap.size ≤ k := by
  obtain ⟨i0, hi, hz0, hz1, hz2⟩ := info_parts info_u8
  obtain ⟨hb, ho, hne, hr1, hr2, hfit, hps⟩ := id h
  have hlen : ys.length ≤ 9223372036854775807 := hC.2.1
  obtain ⟨A1, cp1, rfl⟩ := wr_form ho
  have hc1 : w.cell? ⟨g, 1, none⟩ = some _ := (blk_cell hb 1).trans rfl
  have hc2 : w.cell? ⟨g, 2, none⟩ = some _ := (blk_cell hb 2).trans rfl
  have hf1 : w.frozen? ⟨g, 1, none⟩ = false := blk_frozen hb 1
  have hf2 : w.frozen? ⟨g, 2, none⟩ = false := blk_frozen hb 2
  have hmid := C_mid A c ys over n (by omega) hc
  obtain ⟨zs, HZ⟩ : ∃ zs, Hid (zs = (ys.take (over + n)).drop over) := ⟨_, Lib.hid rfl⟩
  rw [← HZ.out] at hmid ⊢
  have hLen : zs.length ≤ room - xs.length := by rw [HZ.out]; simp; omega
  have HLen := Lib.hid hLen
  clear hLen
  have HMID := Lib.hid hmid
  have HB := Lib.hid hb
  have HH := Lib.hid h
  have HC := Lib.hid hC
  have HN := Lib.hid hn
  have hn1 : n ≤ ys.length - over := by omega
  have hn2 : n ≤ room - xs.length := by omega
  clear ho hne hb h hC hmid
  rcases Nat.lt_or_ge ys.length pass with hlt | hge
  · obtain rfl : over = ys.length := by omega
    clear hov hn
    go_enter Try.func17, Try.ntmps17
    go_wp2_with fail
    refine (made_any g room _ _ _ hr1 hr2 HB.out).mono ?_
    rintro e w' ⟨rfl, rfl⟩
    go_wp2_with fail
    refine (Room_calls g _ room xs (pass - ys.length) _ (HH.out.setpass _ (by omega) _ (by omega))).mono ?_
    rintro e w' ⟨rfl, nq, rfl⟩
    go_wp2_with fail
    obtain rfl : n = 0 := by omega
    have hsum : IntKind.i64.wrap (ys.length : Int) = (ys.length : Int) := IntWalk.i64_in _ (by omega)
    obtain ⟨A', hrun, hCC, hcc⟩ := HMID.out
    simp only [Int.natCast_zero, Int.add_zero] at hrun
    have IB := Lib.hid (HH.out.setpass (pass - ys.length) (by omega) ((pass : Int) - ys.length) (by omega))
    have OWN : Hid (∀ W : World, W.heap = (w.setCell ⟨g, 2, none⟩ (.int .u64 ((pass : Int) - ys.length))).heap → W.ownsRow 0 5 1 (.slice A1 xs.length cp1) xs.length (nums .u8 xs)) := Lib.hid fun W hW => own_move IB.out.own fun k _ => by rw [hW]
    have CC : Hid (∀ W : World, W.heap = (w.setCell ⟨g, 2, none⟩ (.int .u64 ((pass : Int) - ys.length))).heap → Kd.C (Kd.int .u8) W A' zs.length zs) := Lib.hid fun W hW => hCC _ (C_heap (C_set HC.out hc2 (by intro x e; cases e) _) hW)
    clear hCC
    go_region_law (refine step_append_bytes rfl (.tmp 39) (.tmp 45) 22 rfl 5 i0 (.int .u8 0) Try.underlying22 hi hz0 hz1 hz2 rfl (.slice A1 xs.length cp1) xs rfl (OWN.out _ rfl) A' zs (c - ys.length) rfl (CC.out _ rfl) (by have := HLen.out; omega) ?_; intro v' w' hown hgrow hnew; (have Z := IB.out.put (by exact rfl) (by exact ⟨rfl, rfl, rfl⟩) hgrow hown hnew HLen.out); (obtain ⟨A2, cp2, rfl⟩ := wr_form hown); clear hown hgrow hnew; (have hcz : w'.cell? ⟨g, 1, none⟩ = some _ := (blk_cell Z.1 1).trans rfl); (have hfz : w'.frozen? ⟨g, 1, none⟩ = false := blk_frozen Z.1 1); (have ZZ := Lib.hid Z.2); clear Z)
    all_goals
      go_wp2
      go_ret
      obtain ⟨q1, q2, q3⟩ := ZZ.out; simp only [List.length_append] at q1 q2 q3
      exact ⟨_, rfl, by simpa using q1, ((Fr.refl (foot g _) w).setCell (p := ⟨g, 2, none⟩) (.inl rfl) _).trans q2, fun k hk => by simpa [World.setCell] using q3 k (by simpa [Value.ownBlock] using hk)⟩
  · obtain rfl : over = pass := by omega
    clear hov hn
    go_enter Try.func17, Try.ntmps17
    go_wp2_with fail
    refine (made_any g room _ _ _ hr1 hr2 HB.out).mono ?_
    rintro e w' ⟨rfl, rfl⟩
    go_wp2_with fail
    refine (Room_calls g _ room xs 0 _ (HH.out.setpass 0 (by omega) _ (by simp))).mono ?_
    rintro e w' ⟨rfl, nq, rfl⟩
    go_wp2_with fail
    · have hnn := HN.out
      obtain rfl : n = room - xs.length := by omega
      clear hnn
      have hsum : IntKind.i64.wrap ((over : Int) + ((room - xs.length : Nat) : Int)) = (over : Int) + ((room - xs.length : Nat) : Int) := IntWalk.i64_in _ (by omega)
      obtain ⟨A', hrun, hCC, hcc⟩ := HMID.out
      have IB := Lib.hid (HH.out.setpass 0 (by omega) 0 (by omega))
      have OWN : Hid (∀ W : World, W.heap = (w.setCell ⟨g, 2, none⟩ (.int .u64 0)).heap → W.ownsRow 0 5 1 (.slice A1 xs.length cp1) xs.length (nums .u8 xs)) := Lib.hid fun W hW => own_move IB.out.own fun k _ => by rw [hW]
      have CC : Hid (∀ W : World, W.heap = (w.setCell ⟨g, 2, none⟩ (.int .u64 0)).heap → Kd.C (Kd.int .u8) W A' zs.length zs) := Lib.hid fun W hW => hCC _ (C_heap (C_set HC.out hc2 (by intro x e; cases e) _) hW)
      clear hCC
      go_region_law (refine step_append_bytes rfl (.tmp 39) (.tmp 45) 22 rfl 5 i0 (.int .u8 0) Try.underlying22 hi hz0 hz1 hz2 rfl (.slice A1 xs.length cp1) xs rfl (OWN.out _ rfl) A' zs (c - over) rfl (CC.out _ rfl) (by have := HLen.out; omega) ?_; intro v' w' hown hgrow hnew; (have Z := IB.out.put (by exact rfl) (by exact ⟨rfl, rfl, rfl⟩) hgrow hown hnew HLen.out); (obtain ⟨A2, cp2, rfl⟩ := wr_form hown); clear hown hgrow hnew; (have hcz : w'.cell? ⟨g, 1, none⟩ = some _ := (blk_cell Z.1 1).trans rfl); (have hfz : w'.frozen? ⟨g, 1, none⟩ = false := blk_frozen Z.1 1); (have ZZ := Lib.hid Z.2); clear Z)
      all_goals
        go_wp2
        go_ret
        obtain ⟨q1, q2, q3⟩ := ZZ.out; simp only [List.length_append] at q1 q2 q3
        exact ⟨_, rfl, by simpa using q1, ((Fr.refl (foot g _) w).setCell (p := ⟨g, 2, none⟩) (.inl rfl) _).trans q2, fun k hk => by simpa [World.setCell] using q3 k (by simpa [Value.ownBlock] using hk)⟩

    · have hnn := HN.out
      rw [show ((ys.length : Int) - (over : Int)) = (n : Int) by omega]
      clear hnn
      have hsum : IntKind.i64.wrap ((over : Int) + (n : Int)) = (over : Int) + (n : Int) := IntWalk.i64_in _ (by omega)
      obtain ⟨A', hrun, hCC, hcc⟩ := HMID.out
      have IB := Lib.hid (HH.out.setpass 0 (by omega) 0 (by omega))
      have OWN : Hid (∀ W : World, W.heap = (w.setCell ⟨g, 2, none⟩ (.int .u64 0)).heap → W.ownsRow 0 5 1 (.slice A1 xs.length cp1) xs.length (nums .u8 xs)) := Lib.hid fun W hW => own_move IB.out.own fun k _ => by rw [hW]
      have CC : Hid (∀ W : World, W.heap = (w.setCell ⟨g, 2, none⟩ (.int .u64 0)).heap → Kd.C (Kd.int .u8) W A' zs.length zs) := Lib.hid fun W hW => hCC _ (C_heap (C_set HC.out hc2 (by intro x e; cases e) _) hW)
      clear hCC
      go_region_law (refine step_append_bytes rfl (.tmp 39) (.tmp 45) 22 rfl 5 i0 (.int .u8 0) Try.underlying22 hi hz0 hz1 hz2 rfl (.slice A1 xs.length cp1) xs rfl (OWN.out _ rfl) A' zs (c - over) rfl (CC.out _ rfl) (by have := HLen.out; omega) ?_; intro v' w' hown hgrow hnew; (have Z := IB.out.put (by exact rfl) (by exact ⟨rfl, rfl, rfl⟩) hgrow hown hnew HLen.out); (obtain ⟨A2, cp2, rfl⟩ := wr_form hown); clear hown hgrow hnew; (have hcz : w'.cell? ⟨g, 1, none⟩ = some _ := (blk_cell Z.1 1).trans rfl); (have hfz : w'.frozen? ⟨g, 1, none⟩ = false := blk_frozen Z.1 1); (have ZZ := Lib.hid Z.2); clear Z)
      all_goals
        go_wp2
        go_ret
        obtain ⟨q1, q2, q3⟩ := ZZ.out; simp only [List.length_append] at q1 q2 q3
        exact ⟨_, rfl, by simpa using q1, ((Fr.refl (foot g _) w).setCell (p := ⟨g, 2, none⟩) (.inl rfl) _).trans q2, fun k hk => by simpa [World.setCell] using q3 k (by simpa [Value.ownBlock] using hk)⟩

theorem Ib.C {w : World} {g : Nat} {A : Option Addr} {n c : Nat} {room : Nat} {xs : List Int} {pass : Nat} (h : Ib w g (.slice A n c) room xs pass) : Kd.C (Kd.int .u8) w A xs.length xs ∧ n = xs.length ∧ xs.length ≤ c := by
  obtain ⟨A', c', he, hl, hC⟩ := C_of_R (R_of_own h.own)
  injection he with h1 h2 h3
  subst h1; subst h2; subst h3
  exact ⟨hC, rfl, hl⟩

set_option maxHeartbeats 1000000 in
set_option maxRecDepth 100000 in
theorem drop_calls (g : Nat) (v : Value) (room : Nat) (xs : List Int) (pass n : Nat) (hn : n ≤ xs.length) (w : World) (h : Ib w g v room xs pass) :
    Calls Try.prog 76 #[.pointer (some ⟨g, 0, none⟩), .int .i64 n] w fun e w' => ∃ v', e = .returned (.tuple #[]) ∧ Ib w' g v' room (xs.drop n) pass ∧ Fr (foot g v) w w' ∧ ∀ k, v'.ownBlock = some k → w.heap.size ≤ k := by
  obtain ⟨hb, ho, hne, hr1, hr2, hfit, hps⟩ := id h
  obtain ⟨A1, cp1, rfl⟩ := wr_form ho
  obtain ⟨hC, _, hcp⟩ := h.C
  obtain ⟨A', hrun, hCC, hcc⟩ := C_from A1 cp1 xs n hn hcp
  obtain ⟨zs, HZ⟩ : ∃ zs, Hid (zs = xs.drop n) := ⟨_, Lib.hid rfl⟩
  rw [← HZ.out] at hrun hCC hcc ⊢
  have hzl : zs.length ≤ xs.length := by rw [HZ.out]; simp
  have hmk := print_make (P := Try.prog) 22 5 .u8 1 Try.underlying22 (by kernel_rfl) (by decide) zs.length (by omega)
  have hc1 : w.cell? ⟨g, 1, none⟩ = some _ := (blk_cell hb 1).trans rfl
  have hf1 : w.frozen? ⟨g, 1, none⟩ = false := blk_frozen hb 1
  have hgl : g < w.heap.size := h.lt.1
  have hgn : ¬ g = w.heap.size := by omega
  have hCZ := hCC _ hC
  have HC := Lib.hid hCZ
  have HH := Lib.hid h
  have hlz : (madeCells #[(Value.int .u8 0)] zs.length).toList.length = zs.length := by simp [size_madeCells]
  have HLZ := Lib.hid hlz
  clear ho hne hb h hC hCC hCZ hlz
  go_enter Try.func76, Try.ntmps76
  go_wp2_with ((with_reducible refine gate_dst (N := 22) rfl ?_); go_must (refine wpList_copy_splice rfl (.tmp 20) (.tmp 21) 22 22 rfl 5 Try.underlying22 (by kernel_rfl) (some ⟨w.heap.size, 0, none⟩) A' zs.length zs.length zs.length (cp1 - n) rfl rfl w.heap.size 0 (madeCells #[(Value.int .u8 0)] zs.length).toList 5 ?c1 (nums .u8 zs) ?c2 ?c3 ?c4 nums_one w.heap.size ((w.setCell ⟨g, 1, none⟩ (.slice (some ⟨w.heap.size, 0, none⟩) zs.length zs.length)).alloc (.cells (madeCells #[(Value.int .u8 0)] zs.length) 5)) ?c5 (Nat.le_refl _) ?next))
  case c1 => simpa [World.setCell] using heap_alloc_new (w.setCell ⟨g, 1, none⟩ (.slice (some ⟨w.heap.size, 0, none⟩) zs.length zs.length)) (.cells (madeCells #[(Value.int .u8 0)] zs.length) 5)
  case c2 => simp [nums]
  case c3 =>
    intro hp
    obtain ⟨ad, e, hc⟩ := C_cells (Kd.C_below (C_set HC.out hc1 (by intro x e; cases e) (.slice (some ⟨w.heap.size, 0, none⟩) zs.length zs.length)) (below_alloc (Below.refl _ _) (.cells (madeCells #[(Value.int .u8 0)] zs.length) 5))) (by simpa [nums] using hp)
    exact ⟨ad, e, fun j v hj => hc j v hj⟩
  case c4 => simp [nums, size_madeCells]
  case c5 => exact Below.refl _ _
  case next =>
    intro w' hw' hb
    go_wp2
    go_end0
    have hs : splice (madeCells #[(Value.int .u8 0)] zs.length).toList 0 (nums .u8 zs) = nums .u8 zs := by
      unfold splice
      rw [List.take_zero, List.nil_append, List.drop_of_length_le (by simp [nums, size_madeCells]), List.append_nil]
    have hrow := hw'.out
    rw [hs] at hrow
    have hbk : ∀ k, k < w.heap.size → w'.heap[k]? = (w.setCell ⟨g, 1, none⟩ (.slice (some ⟨w.heap.size, 0, none⟩) zs.length zs.length)).heap[k]? := fun k hk => (hb.block k hk).trans (Below.heap_alloc _ _ _ (by simpa [World.setCell] using hk))
    refine ⟨.slice (some ⟨w.heap.size, 0, none⟩) zs.length zs.length, rfl, ⟨?_, ⟨by simp [nums], .inr ⟨w.heap.size, zs.length, _, rfl, Nat.zero_le _, hrow, Nat.le_refl _, by unfold maxLen; omega, by simp [nums], List.take_of_length_le (by simp [nums])⟩⟩, ?_, HH.out.r1, HH.out.r2, by have := HH.out.fit; omega, HH.out.ps⟩, ⟨hb.os, hb.tape, hb.output, ?_, fun k hk hn => ?_⟩, ?_⟩
    · rw [hbk g hgl, blk_set HH.out.blk]; rfl
    · intro k hk; simp [Value.ownBlock] at hk; omega
    · have := hb.size; simp [World.setCell] at this; omega
    · rw [hbk k hk, Below.heap_setCell _ _ _ _ (fun e => hn (.inl e))]
    · intro k hk; simp [Value.ownBlock] at hk; omega
end Go.Proofs.Ytajdplhmbigolaa.Fra
