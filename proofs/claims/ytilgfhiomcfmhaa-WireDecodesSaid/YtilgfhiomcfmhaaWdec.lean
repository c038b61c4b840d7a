/- WireDecodes, walked: every decoder of any bytes answers what the document's answers. -/
import Derived.Test.YtilgfhiomcfmhaaRall
import Derived.Test.YtilgfhiomcfmhaaTwn
import Derived.Test.YtilgfhiomcfmhaaPDx1
import Derived.Test.YtilgfhiomcfmhaaPDx4
namespace Go.Proofs.Ytilgfhiomcfmhaa.PureD
open Go.RowKit Go.Proofs.Ytilgfhiomcfmhaa.Hand Go.Proofs.Ytilgfhiomcfmhaa.PD Go.Proofs.Ytilgfhiomcfmhaa.Octa Go.Proofs.YtilgfhiomcfmhaaW.PrintWords Go.Proofs.YtilgfhiomcfmhaaW.PrintLast
set_option linter.unusedSimpArgs false
set_option linter.unusedVariables false

theorem num_quiet (e : Int) (w : World) (n : Nat) : Calls Try.prog 13 #[.int .i64 e] (w.drewN n) fun x w'' => x = .returned (.int .i64 e) ∧ ∃ m, w'' = w.drewN m := by
  refine (spindlelaw08_num.calls e e _ rfl).mono ?_
  rintro x w1 ⟨rfl, ⟨m, rfl⟩⟩
  exact ⟨rfl, n + m, by rw [World.drewN_drewN]⟩
theorem some_greet (l : List Int) (hl : l.length ≤ 140737488355000) : ∃ r1 r2 r3, wire_DecodeGreeting.f l = some (r1, r2, r3) := by
  unfold wire_DecodeGreeting.f
  rw [if_pos hl]
  repeat' split
  all_goals exact ⟨_, _, _, rfl⟩
theorem some_flags (l : List Int) (hl : l.length ≤ 140737488355000) : ∃ r1 r2 r3, wire_DecodeFlags.f l = some (r1, r2, r3) := by
  unfold wire_DecodeFlags.f
  rw [if_pos hl]
  repeat' split
  all_goals exact ⟨_, _, _, rfl⟩
theorem some_export (l : List Int) (z : Bool) (hl : l.length ≤ 140737488355000) : ∃ r1 r2 r3 r4, wire_DecodeExport.f l z = some (r1, r2, r3, r4) := by
  unfold wire_DecodeExport.f
  rw [if_pos hl]
  repeat' split
  all_goals exact ⟨_, _, _, _, rfl⟩
theorem some_simple (l : List Int) (hl : l.length ≤ 140737488355000) : ∃ r1 r2 r3 r4, wire_DecodeSimple.f l = some (r1, r2, r3, r4) := by
  unfold wire_DecodeSimple.f
  rw [if_pos hl]
  repeat' split
  all_goals exact ⟨_, _, _, _, rfl⟩
theorem some_option (l : List Int) (m : Int) (hl : l.length ≤ 140737488355000) : ∃ r1 r2 r3 r4 r5 r6, wire_DecodeOption.f l m = some (r1, r2, r3, r4, r5, r6) := by
  unfold wire_DecodeOption.f
  rw [if_pos hl]
  repeat' split
  all_goals exact ⟨_, _, _, _, _, _, rfl⟩
theorem some_reply (l : List Int) (m : Int) (hl : l.length ≤ 140737488355000) : ∃ r1 r2 r3 r4 r5, wire_DecodeReply.f l m = some (r1, r2, r3, r4, r5) := by
  unfold wire_DecodeReply.f
  rw [if_pos hl]
  repeat' split
  all_goals exact ⟨_, _, _, _, _, rfl⟩
theorem some_request (l : List Int) (m : Int) (z : Bool) (hl : l.length ≤ 140737488355000) (q0 : 0 ≤ m) (q1 : m ≤ 4294967295) : ∃ r1 r2 r3 r4 r5 r6 r7 r8, wire_DecodeRequest.f l m z = some (r1, r2, r3, r4, r5, r6, r7, r8) := by
  unfold wire_DecodeRequest.f
  rw [if_pos ⟨hl, q0, q1⟩]
  repeat' split
  all_goals exact ⟨_, _, _, _, _, _, _, _, rfl⟩
theorem some_chunk (l : List Int) (m : Int) (z : Bool) (hl : l.length ≤ 140737488355000) (q0 : 0 ≤ m) (q1 : m ≤ 4294967295) : ∃ r1 r2 r3 r4 r5 r6 r7, wire_DecodeChunk.f l m z = some (r1, r2, r3, r4, r5, r6, r7) := by
  unfold wire_DecodeChunk.f
  rw [if_pos ⟨hl, q0, q1⟩]
  repeat' split
  all_goals exact ⟨_, _, _, _, _, _, _, rfl⟩
theorem below_next {w a b : World} (h : Below w.heap.size w a) (hb : Below a.heap.size a b) : Below w.heap.size w b := below_then h h.size hb
theorem alive_40 : spindlelaw08_alive.f 40 = some true := by decide +kernel
theorem same_go (x : List Int) (hl : x.length ≤ 140737488355000) : ∀ (d i k : Nat), i + d = x.length → d < k → spindleref01_Same.l0 k x x (i : Int) = some true := by
  intro d
  induction d with
  | zero =>
    intro i k h hk
    obtain ⟨k, rfl⟩ : ∃ m, k = m + 1 := ⟨k - 1, by omega⟩
    simp only [spindleref01_Same.l0]
    rw [if_neg (by omega)]
  | succ d ih =>
    intro i k h hk
    obtain ⟨k, rfl⟩ : ∃ m, k = m + 1 := ⟨k - 1, by omega⟩
    simp only [spindleref01_Same.l0]
    rw [if_pos (by omega), if_pos (by omega), if_pos (by omega), if_pos True.intro, wrap_up (by omega) (by omega)]
    exact ih (i + 1) k (by omega) (by omega)
theorem same_is (x : List Int) (hl : x.length ≤ 140737488355000) (k : Nat) (hk : x.length < k) : spindlelaw08_same.f k x x = some true := by
  unfold spindlelaw08_same.f spindleref08_Same.f spindleref01_Same.f
  have e := same_go x hl x.length 0 k (by omega) hk
  rw [if_pos rfl]
  rw [show ((0 : Nat) : Int) = 0 from rfl] at e
  rw [e]
  rfl
theorem len_option (l : List Int) (m : Int) (r1 : Int) (r2 : Int) (r3 : Bool) (r4 : List Int) (r5 : Int) (r6 : Int) (h : wire_DecodeOption.f l m = some (r1, r2, r3, r4, r5, r6)) : r4.length ≤ l.length := by
  unfold wire_DecodeOption.f at h
  repeat' split at h
  all_goals first
    | (cases h; done)
    | (simp only [Option.some.injEq, Prod.mk.injEq] at h; obtain ⟨rfl, rfl, rfl, rfl, rfl, rfl⟩ := h; first | exact Nat.zero_le _ | (rw [List.length_drop, List.length_take]; omega))
theorem len_reply (l : List Int) (m : Int) (r1 : Int) (r2 : Int) (r3 : List Int) (r4 : Int) (r5 : Int) (h : wire_DecodeReply.f l m = some (r1, r2, r3, r4, r5)) : r3.length ≤ l.length := by
  unfold wire_DecodeReply.f at h
  repeat' split at h
  all_goals first
    | (cases h; done)
    | (simp only [Option.some.injEq, Prod.mk.injEq] at h; obtain ⟨rfl, rfl, rfl, rfl, rfl⟩ := h; first | exact Nat.zero_le _ | (rw [List.length_drop, List.length_take]; omega))
theorem len_request (l : List Int) (m : Int) (z : Bool) (r1 : Int) (r2 : Int) (r3 : Int) (r4 : Int) (r5 : Int) (r6 : List Int) (r7 : Int) (r8 : Int) (h : wire_DecodeRequest.f l m z = some (r1, r2, r3, r4, r5, r6, r7, r8)) : r6.length ≤ l.length := by
  unfold wire_DecodeRequest.f at h
  repeat' split at h
  all_goals first
    | (cases h; done)
    | (simp only [Option.some.injEq, Prod.mk.injEq] at h; obtain ⟨rfl, rfl, rfl, rfl, rfl, rfl, rfl, rfl⟩ := h; first | exact Nat.zero_le _ | (rw [List.length_drop, List.length_take]; omega))
theorem len_chunk (l : List Int) (m : Int) (z : Bool) (r1 : Int) (r2 : Int) (r3 : Int) (r4 : Int) (r5 : List Int) (r6 : Int) (r7 : Int) (h : wire_DecodeChunk.f l m z = some (r1, r2, r3, r4, r5, r6, r7)) : r5.length ≤ l.length := by
  unfold wire_DecodeChunk.f at h
  repeat' split at h
  all_goals first
    | (cases h; done)
    | (simp only [Option.some.injEq, Prod.mk.injEq] at h; obtain ⟨rfl, rfl, rfl, rfl, rfl, rfl, rfl⟩ := h; first | exact Nat.zero_le _ | (rw [List.length_drop, List.length_take]; omega))

set_option maxHeartbeats 4000000 in
set_option maxRecDepth 100000 in
theorem WireDecodes_walk (A : Option Addr) (c : Nat) (l : List Int) (m : Int) (z : Bool) (w : World) (hC0 : Kd.C (Kd.int .u8) w A l.length l) (hc : l.length ≤ c) (hb8 : Bytes l) (hl : l.length ≤ 140737488351232) (q0 : 0 ≤ m) (q1 : m ≤ 4294967295) :
    Calls Try.prog 9 #[.slice A l.length c, .int .u32 m, .bool z] w fun e w' => e = .returned (.bool true) ∧ Below w.heap.size w w' := by
  have hl5 : l.length ≤ 140737488355000 := by omega
  have HC0 := Lib.hid hC0
  clear hC0
  have HY := Lib.hid hb8
  clear hb8
  go_enter Try.func9, Try.ntmps9
  go_wp2_with fail
  refine (twin_calls A c l w HC0.out hl5).mono ?_
  rintro e w1 ⟨g, rfl, hg, ht, hb⟩
  have HB0 : Hid (Below w.heap.size w w1) := Lib.hid hb
  have HTB : Hid (∀ W, Below w1.heap.size w1 W → Blk W g (marked l)) := Lib.hid fun W hW => ht.move hW
  have HT : Hid (∀ W, Below w1.heap.size w1 W → Kd.C (Kd.int .u8) W (some ⟨g, 0, none⟩) l.length l) := Lib.hid fun W hW => by
    have h1 := Kd.C_take ((HTB.out W hW).C (by rw [marked_length]; omega)) (m := l.length) (by rw [marked_length]; omega)
    rwa [show (marked l).take l.length = l from by unfold marked; exact List.take_left' rfl] at h1
  have HC : Hid (∀ W, Below w1.heap.size w1 W → Kd.C (Kd.int .u8) W A l.length l) := Lib.hid fun W hW => Kd.C_below HC0.out (below_then HB0.out HB0.out.size hW)
  have HB1 : Hid (Below w1.heap.size w1 w1) := Lib.hid (Below.refl _ _)
  clear ht hb hg
  obtain ⟨a1, a2, a3, ha⟩ := some_greet l hl5
  have Ha := Lib.hid ha
  clear ha
  go_wp2_with fail
  refine (wire_DecodeGreeting.calls (some ⟨g, 0, none⟩) (l.length + 4) l a1 a2 a3 _ (HT.out _ (by repeat (first | (with_reducible exact HB1.out) | (with_reducible refine pw_below_drewN ?_ _) | (with_reducible refine below_alloc ?_ _)))) (by omega) Ha.out).mono ?_
  rintro e w2 ⟨rfl, hb⟩
  have HB2 : Hid (Below w1.heap.size w1 w2) := Lib.hid (below_next (by repeat (first | (with_reducible exact HB1.out) | (with_reducible refine pw_below_drewN ?_ _) | (with_reducible refine below_alloc ?_ _))) hb)
  clear hb
  go_wp2_with fail
  refine (spindleref08_DecodeGreeting.calls 150 A c l a1 a2 a3 _ (HC.out _ (by repeat (first | (with_reducible exact HB2.out) | (with_reducible refine pw_below_drewN ?_ _) | (with_reducible refine below_alloc ?_ _)))) hc (by rw [dec_greet l hl5 150 (by decide), Ha.out])).mono ?_
  rintro e w3 ⟨rfl, hb⟩
  have ka : w3.heap[w2.heap.size]? = some (.cells #[.int .u16 a1] 55 (0, 0)) := (hb.block w2.heap.size (by simp)).trans (blk_new _ _)
  have ka_0 : w3.cell? ⟨w2.heap.size, 0, none⟩ = some (.int .u16 a1) := (blk_cell ka 0).trans rfl
  have ka_l : w2.heap.size < w3.heap.size := blk_lt ka
  have ka_n : ¬ w3.heap.size = w2.heap.size := by omega
  clear ka
  have HB3 : Hid (Below w1.heap.size w1 w3) := Lib.hid (below_next (by repeat (first | (with_reducible exact HB2.out) | (with_reducible refine pw_below_drewN ?_ _) | (with_reducible refine below_alloc ?_ _))) hb)
  clear hb
  have ea_0 : (a1 != a1) = false := by simp
  have ea_1 : (a2 != a2) = false := by simp
  have ea_2 : (a3 != a3) = false := by simp
  go_wp2_with fail
  refine (spindlelaw08_num.calls a3 a3 _ rfl).mono ?_
  rintro e w' ⟨rfl, ⟨nd, rfl⟩⟩
  go_wp2_with fail
  clear ka_0 ka_l ka_n
  clear ea_0 ea_1 ea_2
  obtain ⟨b1, b2, b3, hb⟩ := some_flags l hl5
  have Hb := Lib.hid hb
  clear hb
  go_wp2_with fail
  refine (wire_DecodeFlags.calls (some ⟨g, 0, none⟩) (l.length + 4) l b1 b2 b3 _ (HT.out _ (by repeat (first | (with_reducible exact HB3.out) | (with_reducible refine pw_below_drewN ?_ _) | (with_reducible refine below_alloc ?_ _)))) (by omega) Hb.out).mono ?_
  rintro e w4 ⟨rfl, hb⟩
  have HB4 : Hid (Below w1.heap.size w1 w4) := Lib.hid (below_next (by repeat (first | (with_reducible exact HB3.out) | (with_reducible refine pw_below_drewN ?_ _) | (with_reducible refine below_alloc ?_ _))) hb)
  clear hb
  go_wp2_with fail
  refine (spindleref08_DecodeFlags.calls 150 A c l b1 b2 b3 _ (HC.out _ (by repeat (first | (with_reducible exact HB4.out) | (with_reducible refine pw_below_drewN ?_ _) | (with_reducible refine below_alloc ?_ _)))) hc (by rw [dec_flags l hl5 150 (by decide), Hb.out])).mono ?_
  rintro e w5 ⟨rfl, hd⟩
  have hb := hd.below
  clear hd
  have HB5 : Hid (Below w1.heap.size w1 w5) := Lib.hid (below_next (by repeat (first | (with_reducible exact HB4.out) | (with_reducible refine pw_below_drewN ?_ _) | (with_reducible refine below_alloc ?_ _))) hb)
  clear hb
  have eb_0 : (b1 != b1) = false := by simp
  have eb_1 : (b2 != b2) = false := by simp
  have eb_2 : (b3 != b3) = false := by simp
  go_wp2_with fail
  refine (spindlelaw08_num.calls b3 b3 _ rfl).mono ?_
  rintro e w' ⟨rfl, ⟨nd, rfl⟩⟩
  go_wp2_with fail
  clear eb_0 eb_1 eb_2
  obtain ⟨d1, d2, d3, d4, hd⟩ := some_export l z hl5
  have Hd := Lib.hid hd
  clear hd
  go_wp2_with fail
  refine (wire_DecodeExport.calls (some ⟨g, 0, none⟩) (l.length + 4) l z d1 d2 d3 d4 _ (HT.out _ (by repeat (first | (with_reducible exact HB5.out) | (with_reducible refine pw_below_drewN ?_ _) | (with_reducible refine below_alloc ?_ _)))) (by omega) Hd.out).mono ?_
  rintro e w6 ⟨rfl, hb⟩
  have HB6 : Hid (Below w1.heap.size w1 w6) := Lib.hid (below_next (by repeat (first | (with_reducible exact HB5.out) | (with_reducible refine pw_below_drewN ?_ _) | (with_reducible refine below_alloc ?_ _))) hb)
  clear hb
  go_wp2_with fail
  refine (spindleref08_DecodeExport.calls 150 A c l z d1 d2 d3 d4 _ (HC.out _ (by repeat (first | (with_reducible exact HB6.out) | (with_reducible refine pw_below_drewN ?_ _) | (with_reducible refine below_alloc ?_ _)))) hc (by rw [dec_export l z hl5 150 (by decide), Hd.out])).mono ?_
  rintro e w7 ⟨rfl, hb⟩
  have kd : w7.heap[w6.heap.size]? = some (.cells #[.int .u64 d1, .int .u16 d2] 57 (0, 0)) := (hb.block w6.heap.size (by simp)).trans (blk_new _ _)
  have kd_0 : w7.cell? ⟨w6.heap.size, 0, none⟩ = some (.int .u64 d1) := (blk_cell kd 0).trans rfl
  have kd_1 : w7.cell? ⟨w6.heap.size, 1, none⟩ = some (.int .u16 d2) := (blk_cell kd 1).trans rfl
  have kd_l : w6.heap.size < w7.heap.size := blk_lt kd
  have kd_n : ¬ w7.heap.size = w6.heap.size := by omega
  clear kd
  have HB7 : Hid (Below w1.heap.size w1 w7) := Lib.hid (below_next (by repeat (first | (with_reducible exact HB6.out) | (with_reducible refine pw_below_drewN ?_ _) | (with_reducible refine below_alloc ?_ _))) hb)
  clear hb
  have ed_0 : (d1 != d1) = false := by simp
  have ed_1 : (d2 != d2) = false := by simp
  have ed_2 : (d3 != d3) = false := by simp
  have ed_3 : (d4 != d4) = false := by simp
  go_wp2_with fail
  refine (spindlelaw08_num.calls d4 d4 _ rfl).mono ?_
  rintro e w' ⟨rfl, ⟨nd, rfl⟩⟩
  go_wp2_with fail
  clear kd_0 kd_1 kd_l kd_n
  clear ed_0 ed_1 ed_2 ed_3
  obtain ⟨s1, s2, s3, s4, hs⟩ := some_simple l hl5
  have Hs := Lib.hid hs
  clear hs
  go_wp2_with fail
  refine (wire_DecodeSimple.calls (some ⟨g, 0, none⟩) (l.length + 4) l s1 s2 s3 s4 _ (HT.out _ (by repeat (first | (with_reducible exact HB7.out) | (with_reducible refine pw_below_drewN ?_ _) | (with_reducible refine below_alloc ?_ _)))) (by omega) Hs.out).mono ?_
  rintro e w8 ⟨rfl, hb⟩
  have HB8 : Hid (Below w1.heap.size w1 w8) := Lib.hid (below_next (by repeat (first | (with_reducible exact HB7.out) | (with_reducible refine pw_below_drewN ?_ _) | (with_reducible refine below_alloc ?_ _))) hb)
  clear hb
  go_wp2_with fail
  refine (spindleref08_DecodeSimple.calls 150 A c l s1 s2 s3 s4 _ (HC.out _ (by repeat (first | (with_reducible exact HB8.out) | (with_reducible refine pw_below_drewN ?_ _) | (with_reducible refine below_alloc ?_ _)))) hc (by rw [dec_simple l HY.out hl5 150 (by decide), Hs.out])).mono ?_
  rintro e w9 ⟨rfl, hb⟩
  have ks : w9.heap[w8.heap.size]? = some (.cells #[.int .u32 s1, .int .u64 s2] 59 (0, 0)) := (hb.block w8.heap.size (by simp)).trans (blk_new _ _)
  have ks_0 : w9.cell? ⟨w8.heap.size, 0, none⟩ = some (.int .u32 s1) := (blk_cell ks 0).trans rfl
  have ks_1 : w9.cell? ⟨w8.heap.size, 1, none⟩ = some (.int .u64 s2) := (blk_cell ks 1).trans rfl
  have ks_l : w8.heap.size < w9.heap.size := blk_lt ks
  have ks_n : ¬ w9.heap.size = w8.heap.size := by omega
  clear ks
  have HB9 : Hid (Below w1.heap.size w1 w9) := Lib.hid (below_next (by repeat (first | (with_reducible exact HB8.out) | (with_reducible refine pw_below_drewN ?_ _) | (with_reducible refine below_alloc ?_ _))) hb)
  clear hb
  have es_0 : (s1 != s1) = false := by simp
  have es_1 : (s2 != s2) = false := by simp
  have es_2 : (s3 != s3) = false := by simp
  have es_3 : (s4 != s4) = false := by simp
  go_wp2_with fail
  refine (spindlelaw08_num.calls s4 s4 _ rfl).mono ?_
  rintro e w' ⟨rfl, ⟨nd, rfl⟩⟩
  go_wp2_with fail
  clear ks_0 ks_1 ks_l ks_n
  clear es_0 es_1 es_2 es_3
  obtain ⟨op1, op2, op3, op4, op5, op6, hop⟩ := some_option l m hl5
  have Hop := Lib.hid hop
  clear hop
  go_wp2_with fail
  refine (wire_DecodeOption.calls (some ⟨g, 0, none⟩) (l.length + 4) l m op1 op2 op3 op4 op5 op6 _ (HT.out _ (by repeat (first | (with_reducible exact HB9.out) | (with_reducible refine pw_below_drewN ?_ _) | (with_reducible refine below_alloc ?_ _)))) (by omega) Hop.out).mono ?_
  rintro e w10 ⟨vop, rfl, hR, hb⟩
  obtain ⟨Aop, cop, rfl, hcop, hC1⟩ := C_of_R hR
  have HC1op : Hid (∀ W, Below w10.heap.size w10 W → Kd.C (Kd.int .u8) W Aop op4.length op4) := Lib.hid fun W hW => Kd.C_below hC1 hW
  have HB10 : Hid (Below w1.heap.size w1 w10) := Lib.hid (below_next (by repeat (first | (with_reducible exact HB9.out) | (with_reducible refine pw_below_drewN ?_ _) | (with_reducible refine below_alloc ?_ _))) hb)
  clear hb hR hC1
  go_wp2_with fail
  refine (rdec_option A c l m op1 op2 op3 op4 op5 op6 _ (HC.out _ (by repeat (first | (with_reducible exact HB10.out) | (with_reducible refine pw_below_drewN ?_ _) | (with_reducible refine below_alloc ?_ _)))) hc HY.out q0 q1 Hop.out).mono ?_
  rintro e w11 ⟨vop, rfl, hR, hb⟩
  obtain ⟨Bop, dop, rfl, hdop, hC2⟩ := C_of_R hR
  have HC2op : Hid (∀ W, Below w11.heap.size w11 W → Kd.C (Kd.int .u8) W Bop op4.length op4) := Lib.hid fun W hW => Kd.C_below hC2 hW
  have HC3op : Hid (∀ W, Below w11.heap.size w11 W → Kd.C (Kd.int .u8) W Aop op4.length op4) := Lib.hid fun W hW => HC1op.out W (below_next (below_next (below_alloc (Below.refl _ _) _) hb) hW)
  have kop : w11.heap[w10.heap.size]? = some (.cells #[.int .u32 op1, .int .u32 op2, .bool op3, .slice Aop op4.length cop] 33 (0, 0)) := (hb.block w10.heap.size (by simp)).trans (blk_new _ _)
  have kop_0 : w11.cell? ⟨w10.heap.size, 0, none⟩ = some (.int .u32 op1) := (blk_cell kop 0).trans rfl
  have kop_1 : w11.cell? ⟨w10.heap.size, 1, none⟩ = some (.int .u32 op2) := (blk_cell kop 1).trans rfl
  have kop_2 : w11.cell? ⟨w10.heap.size, 2, none⟩ = some (.bool op3) := (blk_cell kop 2).trans rfl
  have kop_3 : w11.cell? ⟨w10.heap.size, 3, none⟩ = some (.slice Aop op4.length cop) := (blk_cell kop 3).trans rfl
  have kop_l : w10.heap.size < w11.heap.size := blk_lt kop
  have kop_n : ¬ w11.heap.size = w10.heap.size := by omega
  clear kop
  have HB11 : Hid (Below w1.heap.size w1 w11) := Lib.hid (below_next (by repeat (first | (with_reducible exact HB10.out) | (with_reducible refine pw_below_drewN ?_ _) | (with_reducible refine below_alloc ?_ _))) hb)
  clear hb hR hC2
  have eop_4 : (op5 != op5) = false := by simp
  have eop_5 : (op6 != op6) = false := by simp
  go_wp2_with fail
  have hsm : spindlelaw08_sameOption.f (l.length + 1) op1 op2 op3 op4 op1 op2 op3 op4 = some true := by
    unfold spindlelaw08_sameOption.f
    have hsd : op4.length ≤ l.length := len_option l m op1 op2 op3 op4 op5 op6 Hop.out
    simp only [same_is op4 (by omega) (l.length + 1) (by omega), if_true, Option.bind_some, beq_self_eq_true]
  refine (spindlelaw08_sameOption.calls (l.length + 1) op1 op2 op3 Aop cop op4 op1 op2 op3 Bop dop op4 true _ (HC3op.out _ (by repeat (first | (with_reducible exact Below.refl _ _) | (with_reducible refine pw_below_drewN ?_ _) | (with_reducible refine below_alloc ?_ _)))) hcop (HC2op.out _ (by repeat (first | (with_reducible exact Below.refl _ _) | (with_reducible refine pw_below_drewN ?_ _) | (with_reducible refine below_alloc ?_ _)))) hdop hsm).mono ?_
  rintro e w12 ⟨rfl, hb⟩
  have HB12 : Hid (Below w1.heap.size w1 w12) := Lib.hid (below_next (by repeat (first | (with_reducible exact HB11.out) | (with_reducible refine pw_below_drewN ?_ _) | (with_reducible refine below_alloc ?_ _))) hb)
  clear hb hsm
  go_wp2_with fail
  refine (spindlelaw08_num.calls op6 op6 _ rfl).mono ?_
  rintro e w' ⟨rfl, ⟨nd, rfl⟩⟩
  clear HC1op HC2op HC3op kop_0 kop_1 kop_2 kop_3 kop_l kop_n
  clear eop_4 eop_5
  obtain ⟨rp1, rp2, rp3, rp4, rp5, hrp⟩ := some_reply l m hl5
  have Hrp := Lib.hid hrp
  clear hrp
  go_wp2_with fail
  refine (wire_DecodeReply.calls (some ⟨g, 0, none⟩) (l.length + 4) l m rp1 rp2 rp3 rp4 rp5 _ (HT.out _ (by repeat (first | (with_reducible exact HB12.out) | (with_reducible refine pw_below_drewN ?_ _) | (with_reducible refine below_alloc ?_ _)))) (by omega) Hrp.out).mono ?_
  rintro e w13 ⟨vrp, rfl, hR, hb⟩
  obtain ⟨Arp, crp, rfl, hcrp, hC1⟩ := C_of_R hR
  have HC1rp : Hid (∀ W, Below w13.heap.size w13 W → Kd.C (Kd.int .u8) W Arp rp3.length rp3) := Lib.hid fun W hW => Kd.C_below hC1 hW
  have HB13 : Hid (Below w1.heap.size w1 w13) := Lib.hid (below_next (by repeat (first | (with_reducible exact HB12.out) | (with_reducible refine pw_below_drewN ?_ _) | (with_reducible refine below_alloc ?_ _))) hb)
  clear hb hR hC1
  go_wp2_with fail
  refine (rdec_reply A c l m rp1 rp2 rp3 rp4 rp5 _ (HC.out _ (by repeat (first | (with_reducible exact HB13.out) | (with_reducible refine pw_below_drewN ?_ _) | (with_reducible refine below_alloc ?_ _)))) hc HY.out q0 q1 Hrp.out).mono ?_
  rintro e w14 ⟨vrp, rfl, hR, hb⟩
  obtain ⟨Brp, drp, rfl, hdrp, hC2⟩ := C_of_R hR
  have HC2rp : Hid (∀ W, Below w14.heap.size w14 W → Kd.C (Kd.int .u8) W Brp rp3.length rp3) := Lib.hid fun W hW => Kd.C_below hC2 hW
  have HC3rp : Hid (∀ W, Below w14.heap.size w14 W → Kd.C (Kd.int .u8) W Arp rp3.length rp3) := Lib.hid fun W hW => HC1rp.out W (below_next (below_next (below_alloc (Below.refl _ _) _) hb) hW)
  have krp : w14.heap[w13.heap.size]? = some (.cells #[.int .u32 rp1, .int .u32 rp2, .slice Arp rp3.length crp] 35 (0, 0)) := (hb.block w13.heap.size (by simp)).trans (blk_new _ _)
  have krp_0 : w14.cell? ⟨w13.heap.size, 0, none⟩ = some (.int .u32 rp1) := (blk_cell krp 0).trans rfl
  have krp_1 : w14.cell? ⟨w13.heap.size, 1, none⟩ = some (.int .u32 rp2) := (blk_cell krp 1).trans rfl
  have krp_2 : w14.cell? ⟨w13.heap.size, 2, none⟩ = some (.slice Arp rp3.length crp) := (blk_cell krp 2).trans rfl
  have krp_l : w13.heap.size < w14.heap.size := blk_lt krp
  have krp_n : ¬ w14.heap.size = w13.heap.size := by omega
  clear krp
  have HB14 : Hid (Below w1.heap.size w1 w14) := Lib.hid (below_next (by repeat (first | (with_reducible exact HB13.out) | (with_reducible refine pw_below_drewN ?_ _) | (with_reducible refine below_alloc ?_ _))) hb)
  clear hb hR hC2
  have erp_3 : (rp4 != rp4) = false := by simp
  have erp_4 : (rp5 != rp5) = false := by simp
  go_wp2_with fail
  have hsm : spindlelaw08_sameReply.f (l.length + 1) rp1 rp2 rp3 rp1 rp2 rp3 = some true := by
    unfold spindlelaw08_sameReply.f
    have hsd : rp3.length ≤ l.length := len_reply l m rp1 rp2 rp3 rp4 rp5 Hrp.out
    simp only [same_is rp3 (by omega) (l.length + 1) (by omega), if_true, Option.bind_some, beq_self_eq_true]
  refine (spindlelaw08_sameReply.calls (l.length + 1) rp1 rp2 Arp crp rp3 rp1 rp2 Brp drp rp3 true _ (HC3rp.out _ (by repeat (first | (with_reducible exact Below.refl _ _) | (with_reducible refine pw_below_drewN ?_ _) | (with_reducible refine below_alloc ?_ _)))) hcrp (HC2rp.out _ (by repeat (first | (with_reducible exact Below.refl _ _) | (with_reducible refine pw_below_drewN ?_ _) | (with_reducible refine below_alloc ?_ _)))) hdrp hsm).mono ?_
  rintro e w15 ⟨rfl, hb⟩
  have HB15 : Hid (Below w1.heap.size w1 w15) := Lib.hid (below_next (by repeat (first | (with_reducible exact HB14.out) | (with_reducible refine pw_below_drewN ?_ _) | (with_reducible refine below_alloc ?_ _))) hb)
  clear hb hsm
  go_wp2_with fail
  refine (spindlelaw08_num.calls rp5 rp5 _ rfl).mono ?_
  rintro e w' ⟨rfl, ⟨nd, rfl⟩⟩
  clear HC1rp HC2rp HC3rp krp_0 krp_1 krp_2 krp_l krp_n
  clear erp_3 erp_4
  go_wp2_with fail
  have HBL : Hid (Below w1.heap.size w1 (w15.drewN nd)) := Lib.hid (by repeat (first | (with_reducible exact HB15.out) | (with_reducible refine pw_below_drewN ?_ _) | (with_reducible refine below_alloc ?_ _)))
  generalize hwl : w15.drewN nd = wl at HBL ⊢
  clear hwl
  go_loopw [24] (fun i wr => ∃ kk : Nat, kk ≤ 2 ∧ i = .int .i64 kk ∧ Below w1.heap.size w1 wr) (fun i _ => 2 - (intOf i).toNat)
  case atStart => exact ⟨0, by omega, rfl, HBL.out⟩
  case round =>
    obtain ⟨kk, hk, rfl, hbr⟩ := hrel
    have HB100 := Lib.hid hbr
    clear hbr
    rcases (by omega : kk = 0 ∨ kk = 1 ∨ kk = 2) with rfl | rfl | rfl
    · obtain ⟨rq1, rq2, rq3, rq4, rq5, rq6, rq7, rq8, hrq⟩ := some_request l m false hl5 q0 q1
      have Hrq := Lib.hid hrq
      clear hrq
      go_wp2_with fail
      refine (wire_DecodeRequest.calls (some ⟨g, 0, none⟩) (l.length + 4) l m false rq1 rq2 rq3 rq4 rq5 rq6 rq7 rq8 _ (HT.out _ (by repeat (first | (with_reducible exact HB100.out) | (with_reducible refine pw_below_drewN ?_ _) | (with_reducible refine below_alloc ?_ _)))) (by omega) Hrq.out).mono ?_
      rintro e w111 ⟨vrq, rfl, hR, hb⟩
      obtain ⟨Arq, crq, rfl, hcrq, hC1⟩ := C_of_R hR
      have HC1rq : Hid (∀ W, Below w111.heap.size w111 W → Kd.C (Kd.int .u8) W Arq rq6.length rq6) := Lib.hid fun W hW => Kd.C_below hC1 hW
      have HB111 : Hid (Below w1.heap.size w1 w111) := Lib.hid (below_next (by repeat (first | (with_reducible exact HB100.out) | (with_reducible refine pw_below_drewN ?_ _) | (with_reducible refine below_alloc ?_ _))) hb)
      clear hb hR hC1
      go_wp2_with fail
      refine (rdec_request_false A c l m rq1 rq2 rq3 rq4 rq5 rq6 rq7 rq8 _ (HC.out _ (by repeat (first | (with_reducible exact HB111.out) | (with_reducible refine pw_below_drewN ?_ _) | (with_reducible refine below_alloc ?_ _)))) hc HY.out q0 q1 Hrq.out).mono ?_
      rintro e w112 ⟨vrq, rfl, hR, hb⟩
      obtain ⟨Brq, drq, rfl, hdrq, hC2⟩ := C_of_R hR
      have HC2rq : Hid (∀ W, Below w112.heap.size w112 W → Kd.C (Kd.int .u8) W Brq rq6.length rq6) := Lib.hid fun W hW => Kd.C_below hC2 hW
      have HC3rq : Hid (∀ W, Below w112.heap.size w112 W → Kd.C (Kd.int .u8) W Arq rq6.length rq6) := Lib.hid fun W hW => HC1rq.out W (below_next (below_next (below_alloc (Below.refl _ _) _) hb) hW)
      have krq : w112.heap[w111.heap.size]? = some (.cells #[.int .u16 rq1, .int .u16 rq2, .int .u64 rq3, .int .u64 rq4, .int .u64 rq5, .slice Arq rq6.length crq] 39 (0, 0)) := (hb.block w111.heap.size (by simp)).trans (blk_new _ _)
      have krq_0 : w112.cell? ⟨w111.heap.size, 0, none⟩ = some (.int .u16 rq1) := (blk_cell krq 0).trans rfl
      have krq_1 : w112.cell? ⟨w111.heap.size, 1, none⟩ = some (.int .u16 rq2) := (blk_cell krq 1).trans rfl
      have krq_2 : w112.cell? ⟨w111.heap.size, 2, none⟩ = some (.int .u64 rq3) := (blk_cell krq 2).trans rfl
      have krq_3 : w112.cell? ⟨w111.heap.size, 3, none⟩ = some (.int .u64 rq4) := (blk_cell krq 3).trans rfl
      have krq_4 : w112.cell? ⟨w111.heap.size, 4, none⟩ = some (.int .u64 rq5) := (blk_cell krq 4).trans rfl
      have krq_5 : w112.cell? ⟨w111.heap.size, 5, none⟩ = some (.slice Arq rq6.length crq) := (blk_cell krq 5).trans rfl
      have krq_l : w111.heap.size < w112.heap.size := blk_lt krq
      have krq_n : ¬ w112.heap.size = w111.heap.size := by omega
      clear krq
      have HB112 : Hid (Below w1.heap.size w1 w112) := Lib.hid (below_next (by repeat (first | (with_reducible exact HB111.out) | (with_reducible refine pw_below_drewN ?_ _) | (with_reducible refine below_alloc ?_ _))) hb)
      clear hb hR hC2
      have erq_6 : (rq7 != rq7) = false := by simp
      have erq_7 : (rq8 != rq8) = false := by simp
      go_wp2_with fail
      have hsm : spindlelaw08_sameRequest.f (l.length + 1) rq1 rq2 rq3 rq4 rq5 rq6 rq1 rq2 rq3 rq4 rq5 rq6 = some true := by
        unfold spindlelaw08_sameRequest.f
        have hsd : rq6.length ≤ l.length := len_request l m false rq1 rq2 rq3 rq4 rq5 rq6 rq7 rq8 Hrq.out
        simp only [same_is rq6 (by omega) (l.length + 1) (by omega), if_true, Option.bind_some, beq_self_eq_true]
      refine (spindlelaw08_sameRequest.calls (l.length + 1) rq1 rq2 rq3 rq4 rq5 Arq crq rq6 rq1 rq2 rq3 rq4 rq5 Brq drq rq6 true _ (HC3rq.out _ (by repeat (first | (with_reducible exact Below.refl _ _) | (with_reducible refine pw_below_drewN ?_ _) | (with_reducible refine below_alloc ?_ _)))) hcrq (HC2rq.out _ (by repeat (first | (with_reducible exact Below.refl _ _) | (with_reducible refine pw_below_drewN ?_ _) | (with_reducible refine below_alloc ?_ _)))) hdrq hsm).mono ?_
      rintro e w113 ⟨rfl, hb⟩
      have HB113 : Hid (Below w1.heap.size w1 w113) := Lib.hid (below_next (by repeat (first | (with_reducible exact HB112.out) | (with_reducible refine pw_below_drewN ?_ _) | (with_reducible refine below_alloc ?_ _))) hb)
      clear hb hsm
      go_wp2_with fail
      refine (spindlelaw08_num.calls rq8 rq8 _ rfl).mono ?_
      rintro e w' ⟨rfl, ⟨nd, rfl⟩⟩
      clear HC1rq HC2rq HC3rq krq_0 krq_1 krq_2 krq_3 krq_4 krq_5 krq_l krq_n
      clear erq_6 erq_7
      obtain ⟨ch1, ch2, ch3, ch4, ch5, ch6, ch7, hch⟩ := some_chunk l m false hl5 q0 q1
      have Hch := Lib.hid hch
      clear hch
      go_wp2_with fail
      refine (wire_DecodeChunk.calls (some ⟨g, 0, none⟩) (l.length + 4) l m false ch1 ch2 ch3 ch4 ch5 ch6 ch7 _ (HT.out _ (by repeat (first | (with_reducible exact HB113.out) | (with_reducible refine pw_below_drewN ?_ _) | (with_reducible refine below_alloc ?_ _)))) (by omega) Hch.out).mono ?_
      rintro e w114 ⟨vch, rfl, hR, hb⟩
      obtain ⟨Ach, cch, rfl, hcch, hC1⟩ := C_of_R hR
      have HC1ch : Hid (∀ W, Below w114.heap.size w114 W → Kd.C (Kd.int .u8) W Ach ch5.length ch5) := Lib.hid fun W hW => Kd.C_below hC1 hW
      have HB114 : Hid (Below w1.heap.size w1 w114) := Lib.hid (below_next (by repeat (first | (with_reducible exact HB113.out) | (with_reducible refine pw_below_drewN ?_ _) | (with_reducible refine below_alloc ?_ _))) hb)
      clear hb hR hC1
      go_wp2_with fail
      refine (rdec_chunk_false A c l m ch1 ch2 ch3 ch4 ch5 ch6 ch7 _ (HC.out _ (by repeat (first | (with_reducible exact HB114.out) | (with_reducible refine pw_below_drewN ?_ _) | (with_reducible refine below_alloc ?_ _)))) hc HY.out q0 q1 Hch.out).mono ?_
      rintro e w115 ⟨vch, rfl, hR, hb⟩
      obtain ⟨Bch, dch, rfl, hdch, hC2⟩ := C_of_R hR
      have HC2ch : Hid (∀ W, Below w115.heap.size w115 W → Kd.C (Kd.int .u8) W Bch ch5.length ch5) := Lib.hid fun W hW => Kd.C_below hC2 hW
      have HC3ch : Hid (∀ W, Below w115.heap.size w115 W → Kd.C (Kd.int .u8) W Ach ch5.length ch5) := Lib.hid fun W hW => HC1ch.out W (below_next (below_next (below_alloc (Below.refl _ _) _) hb) hW)
      have kch : w115.heap[w114.heap.size]? = some (.cells #[.int .u16 ch1, .int .u16 ch2, .int .u64 ch3, .int .u64 ch4, .slice Ach ch5.length cch] 41 (0, 0)) := (hb.block w114.heap.size (by simp)).trans (blk_new _ _)
      have kch_0 : w115.cell? ⟨w114.heap.size, 0, none⟩ = some (.int .u16 ch1) := (blk_cell kch 0).trans rfl
      have kch_1 : w115.cell? ⟨w114.heap.size, 1, none⟩ = some (.int .u16 ch2) := (blk_cell kch 1).trans rfl
      have kch_2 : w115.cell? ⟨w114.heap.size, 2, none⟩ = some (.int .u64 ch3) := (blk_cell kch 2).trans rfl
      have kch_3 : w115.cell? ⟨w114.heap.size, 3, none⟩ = some (.int .u64 ch4) := (blk_cell kch 3).trans rfl
      have kch_4 : w115.cell? ⟨w114.heap.size, 4, none⟩ = some (.slice Ach ch5.length cch) := (blk_cell kch 4).trans rfl
      have kch_l : w114.heap.size < w115.heap.size := blk_lt kch
      have kch_n : ¬ w115.heap.size = w114.heap.size := by omega
      clear kch
      have HB115 : Hid (Below w1.heap.size w1 w115) := Lib.hid (below_next (by repeat (first | (with_reducible exact HB114.out) | (with_reducible refine pw_below_drewN ?_ _) | (with_reducible refine below_alloc ?_ _))) hb)
      clear hb hR hC2
      have ech_5 : (ch6 != ch6) = false := by simp
      have ech_6 : (ch7 != ch7) = false := by simp
      go_wp2_with fail
      have hsm : spindlelaw08_sameChunk.f (l.length + 1) ch1 ch2 ch3 ch4 ch5 ch1 ch2 ch3 ch4 ch5 = some true := by
        unfold spindlelaw08_sameChunk.f
        have hsd : ch5.length ≤ l.length := len_chunk l m false ch1 ch2 ch3 ch4 ch5 ch6 ch7 Hch.out
        simp only [same_is ch5 (by omega) (l.length + 1) (by omega), if_true, Option.bind_some, beq_self_eq_true]
      refine (spindlelaw08_sameChunk.calls (l.length + 1) ch1 ch2 ch3 ch4 Ach cch ch5 ch1 ch2 ch3 ch4 Bch dch ch5 true _ (HC3ch.out _ (by repeat (first | (with_reducible exact Below.refl _ _) | (with_reducible refine pw_below_drewN ?_ _) | (with_reducible refine below_alloc ?_ _)))) hcch (HC2ch.out _ (by repeat (first | (with_reducible exact Below.refl _ _) | (with_reducible refine pw_below_drewN ?_ _) | (with_reducible refine below_alloc ?_ _)))) hdch hsm).mono ?_
      rintro e w116 ⟨rfl, hb⟩
      have HB116 : Hid (Below w1.heap.size w1 w116) := Lib.hid (below_next (by repeat (first | (with_reducible exact HB115.out) | (with_reducible refine pw_below_drewN ?_ _) | (with_reducible refine below_alloc ?_ _))) hb)
      clear hb hsm
      go_wp2_with fail
      refine (spindlelaw08_num.calls ch7 ch7 _ rfl).mono ?_
      rintro e w' ⟨rfl, ⟨nd, rfl⟩⟩
      clear HC1ch HC2ch HC3ch kch_0 kch_1 kch_2 kch_3 kch_4 kch_l kch_n
      clear ech_5 ech_6
      go_wp2_with fail
      go_roundw
      case rel => exact ⟨1, by omega, by go_num, (by repeat (first | (with_reducible exact HB116.out) | (with_reducible refine pw_below_drewN ?_ _) | (with_reducible refine below_alloc ?_ _)))⟩
      case measure => simp [intOf]
    · obtain ⟨rq1, rq2, rq3, rq4, rq5, rq6, rq7, rq8, hrq⟩ := some_request l m true hl5 q0 q1
      have Hrq := Lib.hid hrq
      clear hrq
      go_wp2_with fail
      refine (wire_DecodeRequest.calls (some ⟨g, 0, none⟩) (l.length + 4) l m true rq1 rq2 rq3 rq4 rq5 rq6 rq7 rq8 _ (HT.out _ (by repeat (first | (with_reducible exact HB100.out) | (with_reducible refine pw_below_drewN ?_ _) | (with_reducible refine below_alloc ?_ _)))) (by omega) Hrq.out).mono ?_
      rintro e w131 ⟨vrq, rfl, hR, hb⟩
      obtain ⟨Arq, crq, rfl, hcrq, hC1⟩ := C_of_R hR
      have HC1rq : Hid (∀ W, Below w131.heap.size w131 W → Kd.C (Kd.int .u8) W Arq rq6.length rq6) := Lib.hid fun W hW => Kd.C_below hC1 hW
      have HB131 : Hid (Below w1.heap.size w1 w131) := Lib.hid (below_next (by repeat (first | (with_reducible exact HB100.out) | (with_reducible refine pw_below_drewN ?_ _) | (with_reducible refine below_alloc ?_ _))) hb)
      clear hb hR hC1
      go_wp2_with fail
      refine (rdec_request_true A c l m rq1 rq2 rq3 rq4 rq5 rq6 rq7 rq8 _ (HC.out _ (by repeat (first | (with_reducible exact HB131.out) | (with_reducible refine pw_below_drewN ?_ _) | (with_reducible refine below_alloc ?_ _)))) hc HY.out q0 q1 Hrq.out).mono ?_
      rintro e w132 ⟨vrq, rfl, hR, hb⟩
      obtain ⟨Brq, drq, rfl, hdrq, hC2⟩ := C_of_R hR
      have HC2rq : Hid (∀ W, Below w132.heap.size w132 W → Kd.C (Kd.int .u8) W Brq rq6.length rq6) := Lib.hid fun W hW => Kd.C_below hC2 hW
      have HC3rq : Hid (∀ W, Below w132.heap.size w132 W → Kd.C (Kd.int .u8) W Arq rq6.length rq6) := Lib.hid fun W hW => HC1rq.out W (below_next (below_next (below_alloc (Below.refl _ _) _) hb) hW)
      have krq : w132.heap[w131.heap.size]? = some (.cells #[.int .u16 rq1, .int .u16 rq2, .int .u64 rq3, .int .u64 rq4, .int .u64 rq5, .slice Arq rq6.length crq] 39 (0, 0)) := (hb.block w131.heap.size (by simp)).trans (blk_new _ _)
      have krq_0 : w132.cell? ⟨w131.heap.size, 0, none⟩ = some (.int .u16 rq1) := (blk_cell krq 0).trans rfl
      have krq_1 : w132.cell? ⟨w131.heap.size, 1, none⟩ = some (.int .u16 rq2) := (blk_cell krq 1).trans rfl
      have krq_2 : w132.cell? ⟨w131.heap.size, 2, none⟩ = some (.int .u64 rq3) := (blk_cell krq 2).trans rfl
      have krq_3 : w132.cell? ⟨w131.heap.size, 3, none⟩ = some (.int .u64 rq4) := (blk_cell krq 3).trans rfl
      have krq_4 : w132.cell? ⟨w131.heap.size, 4, none⟩ = some (.int .u64 rq5) := (blk_cell krq 4).trans rfl
      have krq_5 : w132.cell? ⟨w131.heap.size, 5, none⟩ = some (.slice Arq rq6.length crq) := (blk_cell krq 5).trans rfl
      have krq_l : w131.heap.size < w132.heap.size := blk_lt krq
      have krq_n : ¬ w132.heap.size = w131.heap.size := by omega
      clear krq
      have HB132 : Hid (Below w1.heap.size w1 w132) := Lib.hid (below_next (by repeat (first | (with_reducible exact HB131.out) | (with_reducible refine pw_below_drewN ?_ _) | (with_reducible refine below_alloc ?_ _))) hb)
      clear hb hR hC2
      have erq_6 : (rq7 != rq7) = false := by simp
      have erq_7 : (rq8 != rq8) = false := by simp
      go_wp2_with fail
      have hsm : spindlelaw08_sameRequest.f (l.length + 1) rq1 rq2 rq3 rq4 rq5 rq6 rq1 rq2 rq3 rq4 rq5 rq6 = some true := by
        unfold spindlelaw08_sameRequest.f
        have hsd : rq6.length ≤ l.length := len_request l m true rq1 rq2 rq3 rq4 rq5 rq6 rq7 rq8 Hrq.out
        simp only [same_is rq6 (by omega) (l.length + 1) (by omega), if_true, Option.bind_some, beq_self_eq_true]
      refine (spindlelaw08_sameRequest.calls (l.length + 1) rq1 rq2 rq3 rq4 rq5 Arq crq rq6 rq1 rq2 rq3 rq4 rq5 Brq drq rq6 true _ (HC3rq.out _ (by repeat (first | (with_reducible exact Below.refl _ _) | (with_reducible refine pw_below_drewN ?_ _) | (with_reducible refine below_alloc ?_ _)))) hcrq (HC2rq.out _ (by repeat (first | (with_reducible exact Below.refl _ _) | (with_reducible refine pw_below_drewN ?_ _) | (with_reducible refine below_alloc ?_ _)))) hdrq hsm).mono ?_
      rintro e w133 ⟨rfl, hb⟩
      have HB133 : Hid (Below w1.heap.size w1 w133) := Lib.hid (below_next (by repeat (first | (with_reducible exact HB132.out) | (with_reducible refine pw_below_drewN ?_ _) | (with_reducible refine below_alloc ?_ _))) hb)
      clear hb hsm
      go_wp2_with fail
      refine (spindlelaw08_num.calls rq8 rq8 _ rfl).mono ?_
      rintro e w' ⟨rfl, ⟨nd, rfl⟩⟩
      clear HC1rq HC2rq HC3rq krq_0 krq_1 krq_2 krq_3 krq_4 krq_5 krq_l krq_n
      clear erq_6 erq_7
      obtain ⟨ch1, ch2, ch3, ch4, ch5, ch6, ch7, hch⟩ := some_chunk l m true hl5 q0 q1
      have Hch := Lib.hid hch
      clear hch
      go_wp2_with fail
      refine (wire_DecodeChunk.calls (some ⟨g, 0, none⟩) (l.length + 4) l m true ch1 ch2 ch3 ch4 ch5 ch6 ch7 _ (HT.out _ (by repeat (first | (with_reducible exact HB133.out) | (with_reducible refine pw_below_drewN ?_ _) | (with_reducible refine below_alloc ?_ _)))) (by omega) Hch.out).mono ?_
      rintro e w134 ⟨vch, rfl, hR, hb⟩
      obtain ⟨Ach, cch, rfl, hcch, hC1⟩ := C_of_R hR
      have HC1ch : Hid (∀ W, Below w134.heap.size w134 W → Kd.C (Kd.int .u8) W Ach ch5.length ch5) := Lib.hid fun W hW => Kd.C_below hC1 hW
      have HB134 : Hid (Below w1.heap.size w1 w134) := Lib.hid (below_next (by repeat (first | (with_reducible exact HB133.out) | (with_reducible refine pw_below_drewN ?_ _) | (with_reducible refine below_alloc ?_ _))) hb)
      clear hb hR hC1
      go_wp2_with fail
      refine (rdec_chunk_true A c l m ch1 ch2 ch3 ch4 ch5 ch6 ch7 _ (HC.out _ (by repeat (first | (with_reducible exact HB134.out) | (with_reducible refine pw_below_drewN ?_ _) | (with_reducible refine below_alloc ?_ _)))) hc HY.out q0 q1 Hch.out).mono ?_
      rintro e w135 ⟨vch, rfl, hR, hb⟩
      obtain ⟨Bch, dch, rfl, hdch, hC2⟩ := C_of_R hR
      have HC2ch : Hid (∀ W, Below w135.heap.size w135 W → Kd.C (Kd.int .u8) W Bch ch5.length ch5) := Lib.hid fun W hW => Kd.C_below hC2 hW
      have HC3ch : Hid (∀ W, Below w135.heap.size w135 W → Kd.C (Kd.int .u8) W Ach ch5.length ch5) := Lib.hid fun W hW => HC1ch.out W (below_next (below_next (below_alloc (Below.refl _ _) _) hb) hW)
      have kch : w135.heap[w134.heap.size]? = some (.cells #[.int .u16 ch1, .int .u16 ch2, .int .u64 ch3, .int .u64 ch4, .slice Ach ch5.length cch] 41 (0, 0)) := (hb.block w134.heap.size (by simp)).trans (blk_new _ _)
      have kch_0 : w135.cell? ⟨w134.heap.size, 0, none⟩ = some (.int .u16 ch1) := (blk_cell kch 0).trans rfl
      have kch_1 : w135.cell? ⟨w134.heap.size, 1, none⟩ = some (.int .u16 ch2) := (blk_cell kch 1).trans rfl
      have kch_2 : w135.cell? ⟨w134.heap.size, 2, none⟩ = some (.int .u64 ch3) := (blk_cell kch 2).trans rfl
      have kch_3 : w135.cell? ⟨w134.heap.size, 3, none⟩ = some (.int .u64 ch4) := (blk_cell kch 3).trans rfl
      have kch_4 : w135.cell? ⟨w134.heap.size, 4, none⟩ = some (.slice Ach ch5.length cch) := (blk_cell kch 4).trans rfl
      have kch_l : w134.heap.size < w135.heap.size := blk_lt kch
      have kch_n : ¬ w135.heap.size = w134.heap.size := by omega
      clear kch
      have HB135 : Hid (Below w1.heap.size w1 w135) := Lib.hid (below_next (by repeat (first | (with_reducible exact HB134.out) | (with_reducible refine pw_below_drewN ?_ _) | (with_reducible refine below_alloc ?_ _))) hb)
      clear hb hR hC2
      have ech_5 : (ch6 != ch6) = false := by simp
      have ech_6 : (ch7 != ch7) = false := by simp
      go_wp2_with fail
      have hsm : spindlelaw08_sameChunk.f (l.length + 1) ch1 ch2 ch3 ch4 ch5 ch1 ch2 ch3 ch4 ch5 = some true := by
        unfold spindlelaw08_sameChunk.f
        have hsd : ch5.length ≤ l.length := len_chunk l m true ch1 ch2 ch3 ch4 ch5 ch6 ch7 Hch.out
        simp only [same_is ch5 (by omega) (l.length + 1) (by omega), if_true, Option.bind_some, beq_self_eq_true]
      refine (spindlelaw08_sameChunk.calls (l.length + 1) ch1 ch2 ch3 ch4 Ach cch ch5 ch1 ch2 ch3 ch4 Bch dch ch5 true _ (HC3ch.out _ (by repeat (first | (with_reducible exact Below.refl _ _) | (with_reducible refine pw_below_drewN ?_ _) | (with_reducible refine below_alloc ?_ _)))) hcch (HC2ch.out _ (by repeat (first | (with_reducible exact Below.refl _ _) | (with_reducible refine pw_below_drewN ?_ _) | (with_reducible refine below_alloc ?_ _)))) hdch hsm).mono ?_
      rintro e w136 ⟨rfl, hb⟩
      have HB136 : Hid (Below w1.heap.size w1 w136) := Lib.hid (below_next (by repeat (first | (with_reducible exact HB135.out) | (with_reducible refine pw_below_drewN ?_ _) | (with_reducible refine below_alloc ?_ _))) hb)
      clear hb hsm
      go_wp2_with fail
      refine (spindlelaw08_num.calls ch7 ch7 _ rfl).mono ?_
      rintro e w' ⟨rfl, ⟨nd, rfl⟩⟩
      clear HC1ch HC2ch HC3ch kch_0 kch_1 kch_2 kch_3 kch_4 kch_l kch_n
      clear ech_5 ech_6
      go_wp2_with fail
      go_roundw
      case rel => exact ⟨2, by omega, by go_num, (by repeat (first | (with_reducible exact HB136.out) | (with_reducible refine pw_below_drewN ?_ _) | (with_reducible refine below_alloc ?_ _)))⟩
      case measure => simp [intOf]
    · go_wp2_with fail
      refine (kept_calls g A c l _ (HTB.out _ HB100.out) (HC.out _ HB100.out) hl5).mono ?_
      rintro e w' ⟨rfl, nk, rfl⟩
      go_wp2_with fail
      refine (spindlelaw08_alive.calls 40 true _ alive_40).mono ?_
      rintro e w200 ⟨rfl, hb⟩
      have HB200 := Lib.hid (below_next (pw_below_drewN HB100.out nk) hb)
      clear hb
      go_wp2_with fail
      go_ret
      exact ⟨rfl, below_next HB0.out HB200.out⟩

/-- As the row's opening tells its arguments. -/
theorem WireDecodes_row (a : Option Addr) (len cap : Nat) (zs : List Int) (m : Int) (z : Bool) (w : World) (wm : (Lit.int .u32 m).wf = true)
    (hw : (a = none ∧ len = 0 ∧ cap = 0 ∧ zs = []) ∨ ∃ x, a = some x ∧ len ≤ cap ∧ cap ≤ maxLen ∧ zs.length = cap ∧ (∀ i, i < zs.length → w.cell? (x.add i) = some (.int .u8 (zs.getD i 0))) ∧ ∀ n ∈ zs, (Lit.int .u8 n).wf = true) (hy : len * 1 ≤ 140737488351232) :
    Calls Try.prog 9 #[.slice a len cap, .int .u32 m, .bool z] w fun e w' => e = .returned (.bool true) ∧ Below w.heap.size w w' := by
  obtain ⟨l0, rfl, hr0, hm0, hw0, hc0⟩ := ReadsInt.ofRowC hw
  have hb : Bytes l0 := fun n hn => by
    have t : (decide ((0 : Int) ≤ n) && decide (n ≤ 255)) = true := hw0 n hn
    simpa using t
  have t : (decide ((0 : Int) ≤ m) && decide (m ≤ 4294967295)) = true := wm
  have t2 : 0 ≤ m ∧ m ≤ 4294967295 := by simpa using t
  exact WireDecodes_walk a cap l0 m z w (Kd.C_of_reads (d := (0 : Int)) (h1 := fun _ => rfl) hr0) hc0 hb (by omega) t2.1 t2.2
end Go.Proofs.Ytilgfhiomcfmhaa.PureD
