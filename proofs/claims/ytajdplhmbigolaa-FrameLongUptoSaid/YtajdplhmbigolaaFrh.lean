/- The laws' lend and fed, and FrameMakes itself as a walk. -/
import Derived.Test.YtajdplhmbigolaaFrg
namespace Go.Proofs.Ytajdplhmbigolaa.Fra
open Go.RowKit Go.Proofs.YtajdplhmbigolaaW.PrintWords Go.Proofs.YtajdplhmbigolaaW.PrintLast Go.Proofs.Ytajdplhmbigolaa.Octa Go.Proofs.Ytajdplhmbigolaa.Hand
set_option linter.unusedVariables false

theorem own_raise {w : World} {base : Nat} {e : TypeId} {size n : Nat} {v : Value} {xs : List Value} (h : w.ownsRow 0 e size v n xs) (hb : ∀ k, v.ownBlock = some k → base ≤ k) : w.ownsRow base e size v n xs := by
  refine ⟨h.1, ?_⟩
  rcases h.2 with h1 | ⟨g, cap, cur, rfl, _, hg⟩
  · exact .inl h1
  · exact .inr ⟨g, cap, cur, rfl, hb g rfl, hg⟩

set_option maxHeartbeats 1000000 in
theorem lend_calls (A : Option Addr) (c : Nat) (ys : List Int) (w : World) (hC : Kd.C (Kd.int .u8) w A ys.length ys) (hl : ys.length ≤ 140737488355000) :
    Calls Try.prog 28 #[.slice A ys.length c] w fun e w' => ∃ g cap, e = .returned (.slice (some ⟨g, 0, none⟩) ys.length cap) ∧ w'.ownsRow w.heap.size 5 1 (.slice (some ⟨g, 0, none⟩) (ys.length + 3) cap) (ys.length + 3) (nums .u8 (ys ++ [90, 91, 92])) ∧ Below w.heap.size w w' := by
  obtain ⟨i0, hi, hz0, hz1, hz2⟩ := info_parts info_u8
  have HC := Lib.hid hC
  clear hC
  go_enter Try.func28, Try.ntmps28
  go_wp2_with fail
  refine (Copy_calls A c ys w HC.out (by omega)).mono ?_
  rintro e w1 ⟨v1, rfl, ho, hb⟩
  obtain ⟨A1, c1, rfl⟩ := wr_form ho
  have HO : Hid ((w1.alloc (.cells #[.int .u8 90, .int .u8 91, .int .u8 92] 5)).ownsRow 0 5 1 (.slice A1 ys.length c1) ys.length (nums .u8 ys)) := Lib.hid ((own_weaken ho (Nat.zero_le _)).alloc _)
  have HL : Hid (Kd.C (Kd.int .u8) (w1.alloc (.cells #[.int .u8 90, .int .u8 91, .int .u8 92] 5)) (some ⟨w1.heap.size, 0, none⟩) [90, 91, 92].length [90, 91, 92]) := Lib.hid (lit_C (blk_new w1 _) (by decide))
  have HK := Lib.hid (fun k => own_base ho k)
  have HB := Lib.hid hb
  clear ho hb
  go_wp2_with (at_builtin; go_must (refine wpList_append_bytes rfl (.tmp 5) (.tmp 6) 22 rfl 5 i0 (.int .u8 0) Try.underlying22 hi hz0 hz1 hz2 rfl (.slice A1 ys.length c1) ys rfl HO.out (some ⟨w1.heap.size, 0, none⟩) [90, 91, 92] 3 3 rfl rfl HL.out (by simp; omega) ?_); intro v' w' hown hgrow hnew; (obtain ⟨g, cap, rfl, hcp, _⟩ := hown.form (by simp)); (have hcap : ys.length ≤ cap := by rcases hown.2 with ⟨h0, _⟩ | ⟨g', cap', cur, hv, _, _, hle, _⟩; (cases h0); (injection hv with _ _ h3; simp at hle; omega)); have HH := Lib.hid (And.intro hown (And.intro hgrow hnew)); clear hown hgrow hnew hcp)
  go_ret
  obtain ⟨h1, h2, h3⟩ := HH.out
  have hg : w.heap.size ≤ g := by
    rcases h3 g rfl with h | h
    · exact HK.out g h
    · have := HB.out.size; simp at h; omega
  have h4 := own_raise h1 (base := w.heap.size) (fun k hk => by have : g = k := by simpa [Value.ownBlock] using hk
                                                                omega)
  refine ⟨g, cap, rfl, by simpa using h4, pw_below_grown (below_alloc HB.out _) _ (by have := HB.out.size; simp; omega) h2 (fun k hk => HK.out k hk)⟩

theorem fr_belowB {S : Nat → Prop} {w w' : World} {B : Nat} (h : Fr S w w') (hS : ∀ k, S k → B ≤ k) (hB : B ≤ w.heap.size) : Below B w w' := ⟨h.os, h.tape, h.output, h.size, fun k hk => h.block k (by omega) (fun hs => by have := hS k hs; omega)⟩

/-- The marked copy that is lent: its cells. -/
structure Lent (w : World) (gl cap : Nat) (L : List Int) : Prop where
  own : w.ownsRow 0 5 1 (.slice (some ⟨gl, 0, none⟩) L.length cap) L.length (nums .u8 L)
theorem Lent.cell {w : World} {gl cap : Nat} {L : List Int} (h : Lent w gl cap L) {j : Nat} {x : Int} (hj : L[j]? = some x) : w.cell? ⟨gl, j, none⟩ = some (.int .u8 x) := by
  have := h.own.cells (g := gl) rfl j (.int .u8 x) (by simp [nums, hj])
  rwa [add_plain] at this

/-- Both inboxes behind their first Feed. -/
structure Fedd (B : Nat) (w : World) (g p room : Nat) (xs : List Int) (e : Ending) (w' : World) : Prop where
  out : e = .returned (.bool true) ∧ ∃ v2 v3, Ib w' g v2 room xs 0 ∧ w'.heap[p]? = some (.cells #[.int .i64 room, v3, .int .u64 0] 32 (0, 0)) ∧ w'.ownsRow 0 5 1 v3 xs.length (nums .u8 xs) ∧ Below B w w'

set_option maxHeartbeats 2000000 in
set_option maxRecDepth 100000 in
theorem fed_first (B g p room : Nat) (hBg : B ≤ g) (hBp : B ≤ p) (hgp : g ≠ p) (hr1 : 1 ≤ room) (hr2 : room ≤ 2097152) (A : Option Addr) (c : Nat) (ys : List Int) (n : Nat) (hn : n = min ys.length room) (w : World) (hx : Ib w g (.slice none 0 0) room [] 0)
    (hp : w.heap[p]? = some (.cells #[.int .i64 room, .slice none 0 0, .int .u64 0] 32 (0, 0))) (hC : ∀ W, Below B w W → Kd.C (Kd.int .u8) W A ys.length ys) (hc : ys.length ≤ c) (hl : ys.length ≤ 140737488355000) :
    Calls Try.prog 13 #[.pointer (some ⟨g, 0, none⟩), .pointer (some ⟨p, 0, none⟩), .slice A ys.length c] w fun e w' => Fedd B w g p room (ys.take n) e w' := by
  have hgl : g < w.heap.size := hx.lt.1
  have hpl : p < w.heap.size := blk_lt hp
  have HX := Lib.hid hx
  have HP := Lib.hid hp
  have HC := Lib.hid hC
  have HN := Lib.hid hn
  clear hx hp hC hn
  go_enter Try.func13, Try.ntmps13
  go_wp2_with fail
  refine (lend_calls A c ys w (HC.out _ (Below.refl _ _)) hl).mono ?_
  rintro e w1 ⟨gl, cap, rfl, ho, hb⟩
  have ho' : w1.ownsRow w.heap.size 5 1 (.slice (some ⟨gl, 0, none⟩) (ys ++ [90, 91, 92]).length cap) (ys ++ [90, 91, 92]).length (nums .u8 (ys ++ [90, 91, 92])) := by rw [List.length_append]; exact ho
  have hcap : ys.length + 3 ≤ cap := by
    rcases ho.2 with ⟨h0, _⟩ | ⟨g', cap', cur, hv, _, _, hle, _⟩
    · cases h0
    · injection hv with _ _ h3; omega
  have hcm : cap ≤ maxLen := by
    rcases ho.2 with ⟨h0, _⟩ | ⟨g', cap', cur, hv, _, _, hle, hm, _⟩
    · cases h0
    · injection hv with _ _ h3; omega
  have hgl1 : w.heap.size ≤ gl := own_base ho gl rfl
  have hgl2 : gl < w1.heap.size := own_lt ho gl rfl
  have hCl : Kd.C (Kd.int .u8) w1 (some ⟨gl, 0, none⟩) ys.length ys := by
    have h1 := Kd.C_take (rd_C ho' rfl) (m := ys.length) (by simp)
    rwa [List.take_left] at h1
  have LE1 : Hid (Lent w1 gl cap (ys ++ [90, 91, 92])) := Lib.hid ⟨own_weaken ho' (Nat.zero_le _)⟩
  have HB1 : Hid (Below B w w1) := Lib.hid (hb.mono (by omega))
  have HX1 := Lib.hid (HX.out.below hb)
  have HP1 := Lib.hid ((hb.block p hpl).trans HP.out)
  have HCL := Lib.hid hCl
  have hsz1 : w.heap.size ≤ w1.heap.size := hb.size
  clear ho ho' hb hCl
  go_wp2_with fail
  refine (Feed_at g (.slice none 0 0) room [] 0 (some ⟨gl, 0, none⟩) cap ys 0 n (by simp) (by simpa using HN.out) w1 HX1.out HCL.out (by omega) hcm).mono ?_
  rintro e w2 ⟨v2, rfl, I2, F2, N2⟩
  have hnl2 : ∀ k, v2.ownBlock = some k → w1.heap.size ≤ k := fun k hk => (N2 k hk).resolve_left (by simp [Value.ownBlock])
  have hf2 : ∀ k, foot g (.slice none 0 0) k → k = g := fun k hk => hk.resolve_right (by simp [Value.ownBlock])
  have HB2 : Hid (Below B w w2) := Lib.hid (HB1.out.trans (fr_belowB F2 (fun k hk => by have := hf2 k hk; omega) (by omega)))
  have HP2 := Lib.hid ((F2.block p (blk_lt HP1.out) (fun hk => hgp (hf2 p hk).symm)).trans HP1.out)
  have LE2 : Hid (Lent w2 gl cap (ys ++ [90, 91, 92])) := Lib.hid ⟨own_move LE1.out.own fun k hk => F2.block k (own_lt LE1.out.own k hk) (fun hf => by have := hf2 k hf; simp [Value.ownBlock] at hk; omega)⟩
  have hsz2 : w1.heap.size ≤ w2.heap.size := F2.size
  have HI2 : Hid (Ib w2 g v2 room (ys.take n) 0) := Lib.hid (by simpa using I2)
  have HN2 := Lib.hid hnl2
  clear I2 F2 N2 hnl2 hf2
  go_wp2_with fail
  refine (RFeed_first p room hr1 hr2 A c ys n HN.out w2 HP2.out (HC.out _ HB2.out) hc).mono ?_
  rintro e w3 ⟨v3, rfl, hp3, ho3, hf3, hn3⟩
  have HB3 : Hid (Below B w w3) := Lib.hid (HB2.out.trans (fr_belowB hf3 (fun k hk => by omega) (by omega)))
  have LE3 : Hid (Lent w3 gl cap (ys ++ [90, 91, 92])) := Lib.hid ⟨own_move LE2.out.own fun k hk => hf3.block k (own_lt LE2.out.own k hk) (fun hf => by simp [Value.ownBlock] at hk; omega)⟩
  have HI3 : Hid (Ib w3 g v2 room (ys.take n) 0) := Lib.hid (HI2.out.fr hf3 (fun k hk e => by
    rcases hk with rfl | hk
    · exact hgp e
    · have := HN2.out k hk; omega))
  have HP3 := Lib.hid hp3
  have HO3 := Lib.hid ho3
  have HN3 := Lib.hid hn3
  have hsz3 : w2.heap.size ≤ w3.heap.size := hf3.size
  clear hp3 ho3 hf3 hn3
  go_wp2_with fail
  have hCl3 : Kd.C (Kd.int .u8) w3 (some ⟨gl, 0, none⟩) ys.length ys := by
    have h1 := Kd.C_take (rd_C LE3.out.own rfl) (m := ys.length) (by simp)
    rwa [List.take_left] at h1
  refine (Same_true (some ⟨gl, 0, none⟩) A cap c ys w3 hCl3 (HC.out _ HB3.out)).mono ?_
  rintro e w4 ⟨rfl, nd, rfl⟩
  have c90 : w3.cell? ⟨gl, ys.length, none⟩ = some (.int .u8 90) := LE3.out.cell (by simp)
  have c91 : w3.cell? ⟨gl, ys.length + 1, none⟩ = some (.int .u8 91) := LE3.out.cell (by simp)
  have c92 : w3.cell? ⟨gl, ys.length + 1 + 1, none⟩ = some (.int .u8 92) := LE3.out.cell (by rw [List.getElem?_append_right (by omega), show ys.length + 1 + 1 - ys.length = 2 by omega]; rfl)
  have e1 : ((ys.length : Int) + 1).toNat = ys.length + 1 := by omega
  have e2 : ((ys.length : Int) + 2).toNat = ys.length + 1 + 1 := by omega
  clear hCl3
  go_wp2_with fail
  clear c90 c91 c92 e1 e2
  go_loopw [13] (fun i wr => ∃ (k : Nat) (L : List Int), k ≤ ys.length + 3 ∧ i = .int .i64 k ∧ L.length = ys.length + 3 ∧ Lent wr gl cap L ∧ Fr (· = gl) w3 wr) (fun i _ => ys.length + 3 - (intOf i).toNat)
  case atStart => exact ⟨0, ys ++ [90, 91, 92], Nat.zero_le _, rfl, by simp, ⟨own_move LE3.out.own fun _ _ => rfl⟩, ⟨rfl, rfl, rfl, Nat.le_refl _, fun _ _ _ => rfl⟩⟩
  case round =>
    obtain ⟨k, L, hk, rfl, hL, hLe, hFr⟩ := hrel
    by_cases hlt : k < ys.length + 3
    · obtain ⟨x, hx⟩ : ∃ x, L[k]? = some x := ⟨_, List.getElem?_eq_getElem (by omega)⟩
      have hc1 : wr.cell? ⟨gl, k, none⟩ = some (.int .u8 x) := hLe.cell hx
      have hf1 : wr.frozen? ⟨gl, k, none⟩ = false := by
        rcases hLe.own.2 with ⟨h0, _⟩ | ⟨g', cap', cur, hv, _, hh, _⟩
        · cases h0
        · injection hv with hv; injection hv with hv; injection hv with hv; subst hv; exact blk_frozen hh _
      have HLe := Lib.hid hLe
      have HFr := Lib.hid hFr
      have HL := Lib.hid hL
      clear hLe hFr hx hL
      go_wp2
      go_roundw
      case rel =>
        have hs := HLe.out.own.stored k (.int .u8 ((x + 1) % 256))
        have he : (nums .u8 L).set k (.int .u8 ((x + 1) % 256)) = nums .u8 (L.set k ((x + 1) % 256)) := by simp [nums, List.map_set]
        rw [he] at hs
        refine ⟨k + 1, L.set k ((x + 1) % 256), by omega, by go_num, by rw [List.length_set]; exact HL.out, ⟨by rw [List.length_set]; exact hs.1⟩, HFr.out.setCell rfl _⟩
      case measure => simp [intOf]; omega
    · obtain rfl : k = ys.length + 3 := by omega
      have HFr := Lib.hid hFr
      clear hFr hLe
      go_wp2
      go_ret
      have f := HFr.out
      have hnot : ∀ k, k < w.heap.size ∨ w1.heap.size ≤ k → ¬ k = gl := fun k hk e => by omega
      refine ⟨⟨rfl, v2, v3, HI3.out.fr f (fun k hk => hnot k (by rcases hk with rfl | hk; exact .inl hgl; exact .inr (HN2.out k hk))), (f.block p (blk_lt HP3.out) (hnot p (.inl hpl))).trans HP3.out, ?_, HB3.out.trans (fr_belowB f (fun k hk => by omega) (by omega))⟩⟩
      exact own_move (by simpa using HO3.out) fun k hk => f.block k (own_lt HO3.out k hk) (hnot k (.inr (Nat.le_trans hsz2 (HN3.out k hk))))
end Go.Proofs.Ytajdplhmbigolaa.Fra
