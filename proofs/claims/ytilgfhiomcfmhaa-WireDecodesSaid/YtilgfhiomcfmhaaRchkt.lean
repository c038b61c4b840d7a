/- The document's decoders with data, walked: they answer what the program's do. -/
import Derived.Test.YtilgfhiomcfmhaaRdec
namespace Go.Proofs.Ytilgfhiomcfmhaa.PureD
open Go.RowKit Go.Proofs.Ytilgfhiomcfmhaa.Hand Go.Proofs.Ytilgfhiomcfmhaa.PD Go.Proofs.Ytilgfhiomcfmhaa.Octa Go.Proofs.YtilgfhiomcfmhaaW.PrintWords Go.Proofs.YtilgfhiomcfmhaaW.PrintLast
set_option linter.unusedSimpArgs false
set_option linter.unusedVariables false

set_option maxHeartbeats 4000000 in
set_option maxRecDepth 100000 in
theorem rchkt_short (A : Option Addr) (c : Nat) (l : List Int) (m : Int) (w : World) (hC : ∀ W, Below w.heap.size w W → Kd.C (Kd.int .u8) W A l.length l) (hc : l.length ≤ c) (hl : l.length ≤ 140737488355000) (r1 r2 : Int) (hr2 : ¬ r2 = 0)
    (hr : (if l.length < 32 then ((32 : Int), (10 : Int)) else if 4 = 0 then (0, 0) else if vat l 0 4 = 1854547852 then (0, 0) else (0, 80)) = (r1, r2)) :
    Calls Try.prog 58 #[.slice A l.length c, .int .u32 m, .bool true] w fun e w' => ∃ v_ : Value, e = .returned (.tuple #[.agg #[.int .u16 0, .int .u16 0, .int .u64 0, .int .u64 0, v_], .int .i64 r1, .int .i64 r2]) ∧ Kd.R (Kd.int .u8) 5 w' w.heap.size (fun _ => True) v_ [] ∧ Below w.heap.size w w' := by
  have HC := Lib.hid hC
  clear hC
  have hz : (r2 != 0) = true := bne_iff_ne.mpr hr2
  have HR := Lib.hid hr
  clear hr
  go_enter Try.func58, Try.ntmps58
  go_wp2_with fail
  refine (head_q A c l _ (HC.out _ (below_alloc (Below.refl _ _) _)) hc hl 32 1854547852 4 (by decide) (by decide) r1 r2 HR.out).mono ?_
  rintro e w' ⟨rfl, n, rfl⟩
  go_wp2_with fail
  refine bodyPost_ret (results_ctt rfl _ _ w.heap.size 41 #[.int .u16 0, .int .u16 0, .int .u64 0, .int .u64 0, .slice none 0 0] (0, 0) _ rfl ?hg Try.underlying41 rfl (by kernel_rfl)) rfl ?_
  case hg =>
    with_reducible refine blk_put (cs := #[.int .u16 0, .int .u16 0, .int .u64 0, .int .u64 0, .slice none 0 0]) ?_ 4 _ rfl
    with_reducible refine blk_put (cs := #[.int .u16 0, .int .u16 0, .int .u64 0, .int .u64 0, .slice none 0 0]) ?_ 3 _ rfl
    with_reducible refine blk_put (cs := #[.int .u16 0, .int .u16 0, .int .u64 0, .int .u64 0, .slice none 0 0]) ?_ 2 _ rfl
    with_reducible refine blk_put (cs := #[.int .u16 0, .int .u16 0, .int .u64 0, .int .u64 0, .slice none 0 0]) ?_ 1 _ rfl
    with_reducible refine blk_put (cs := #[.int .u16 0, .int .u16 0, .int .u64 0, .int .u64 0, .slice none 0 0]) ?_ 0 _ rfl
    repeat (first | (with_reducible refine blk_drewN ?_ _) | (with_reducible refine blk_far ?_ (by first | (simp; done) | (simp; omega)) _) | (with_reducible exact blk_new _ _) | (with_reducible refine blk_alloc ?_ _))
  exact ⟨_, rfl, Kd.R_nil _ _ _ _ _, (by repeat (first | (with_reducible exact Below.refl _ _) | (with_reducible refine pw_below_drewN ?_ _) | (with_reducible refine Below.setCell ?_ (by first | exact Nat.le_refl _ | exact Nat.le_succ _ | (simp; done) | (simp; omega)) _) | (with_reducible refine Below.alloc ?_ (by first | exact Nat.le_refl _ | exact Nat.le_succ _ | (simp; done) | (simp; omega)) _)))⟩

set_option maxHeartbeats 4000000 in
set_option maxRecDepth 100000 in
theorem rchkt_long (A : Option Addr) (c : Nat) (l : List Int) (m : Int) (w : World) (hC : ∀ W, Below w.heap.size w W → Kd.C (Kd.int .u8) W A l.length l) (hc : l.length ≤ c) (hl : l.length ≤ 140737488355000) (hm : 32 ≤ l.length) (hmg : vat l 0 4 = 1854547852) (q0 : 0 ≤ m) (q1 : m ≤ 4294967295) (x4 x6 x8 x16 x24 : Int) (hx4 : vat l 4 2 = x4) (hx6 : vat l 6 2 = x6) (hx8 : vat l 8 8 = x8) (hx16 : vat l 16 8 = x16) (hx24 : vat l 24 8 = x24) (rx4 : 0 ≤ x4 ∧ x4 < 65536) (rx6 : 0 ≤ x6 ∧ x6 < 65536) (rx8 : 0 ≤ x8 ∧ x8 < 18446744073709551616) (rx16 : 0 ≤ x16 ∧ x16 < 18446744073709551616) (rx24 : 0 ≤ x24 ∧ x24 < 18446744073709551616) (hx : x24 > m) :
    Calls Try.prog 58 #[.slice A l.length c, .int .u32 m, .bool true] w fun e w' => ∃ v_ : Value, e = .returned (.tuple #[.agg #[.int .u16 x4, .int .u16 x6, .int .u64 x8, .int .u64 x16, v_], .int .i64 32, .int .i64 12]) ∧ Kd.R (Kd.int .u8) 5 w' w.heap.size (fun _ => True) v_ [] ∧ Below w.heap.size w w' := by
  have HC := Lib.hid hC
  clear hC
  have Hx4 := Lib.hid hx4
  have Hx6 := Lib.hid hx6
  have Hx8 := Lib.hid hx8
  have Hx16 := Lib.hid hx16
  have Hx24 := Lib.hid hx24
  clear hx4 hx6 hx8 hx16 hx24
  have mx4 : IntKind.u16.wrap x4 = x4 := by rw [u16_mod]; omega
  have mx4' : x4 % 65536 = x4 := by omega
  have mx6 : IntKind.u16.wrap x6 = x6 := by rw [u16_mod]; omega
  have mx6' : x6 % 65536 = x6 := by omega
  have HR : Hid ((if l.length < 32 then ((32 : Int), (10 : Int)) else if 4 = 0 then (0, 0) else if vat l 0 4 = 1854547852 then (0, 0) else (0, 80)) = (0, 0)) := Lib.hid (by rw [if_neg (by omega), if_neg (by decide), if_pos hmg])
  have HT : Hid ((if x24 > m then ((32 : Int), (12 : Int)) else if (l.length : Int) < 32 + x24 then (32 + x24, 10) else (32 + x24, 0)) = (32, 12)) := Lib.hid (by simp only [*, if_true, if_false]; first | done | rfl | (simp [*]; done) | (simp [*]; omega))
  clear hmg
  go_enter Try.func58, Try.ntmps58
  go_wp2_with fail
  refine (head_q A c l _ (HC.out _ (by repeat (first | (with_reducible exact Below.refl _ _) | (with_reducible refine pw_below_drewN ?_ _) | (with_reducible refine Below.setCell ?_ (by first | exact Nat.le_refl _ | exact Nat.le_succ _ | (simp; done) | (simp; omega)) _) | (with_reducible refine Below.alloc ?_ (by first | exact Nat.le_refl _ | exact Nat.le_succ _ | (simp; done) | (simp; omega)) _)))) hc hl 32 1854547852 4 (by decide) (by decide) 0 0 HR.out).mono ?_
  rintro e w' ⟨rfl, n, rfl⟩
  go_wp2_with fail
  refine (value_q A c l _ (HC.out _ (by repeat (first | (with_reducible exact Below.refl _ _) | (with_reducible refine pw_below_drewN ?_ _) | (with_reducible refine Below.setCell ?_ (by first | exact Nat.le_refl _ | exact Nat.le_succ _ | (simp; done) | (simp; omega)) _) | (with_reducible refine Below.alloc ?_ (by first | exact Nat.le_refl _ | exact Nat.le_succ _ | (simp; done) | (simp; omega)) _)))) hc hl 4 2 (by omega) (by decide)).mono ?_
  rw [Hx4.out]
  rintro e w' ⟨rfl, n, rfl⟩
  go_wp2_with fail
  refine (value_q A c l _ (HC.out _ (by repeat (first | (with_reducible exact Below.refl _ _) | (with_reducible refine pw_below_drewN ?_ _) | (with_reducible refine Below.setCell ?_ (by first | exact Nat.le_refl _ | exact Nat.le_succ _ | (simp; done) | (simp; omega)) _) | (with_reducible refine Below.alloc ?_ (by first | exact Nat.le_refl _ | exact Nat.le_succ _ | (simp; done) | (simp; omega)) _)))) hc hl 6 2 (by omega) (by decide)).mono ?_
  rw [Hx6.out]
  rintro e w' ⟨rfl, n, rfl⟩
  go_wp2_with fail
  refine (value_q A c l _ (HC.out _ (by repeat (first | (with_reducible exact Below.refl _ _) | (with_reducible refine pw_below_drewN ?_ _) | (with_reducible refine Below.setCell ?_ (by first | exact Nat.le_refl _ | exact Nat.le_succ _ | (simp; done) | (simp; omega)) _) | (with_reducible refine Below.alloc ?_ (by first | exact Nat.le_refl _ | exact Nat.le_succ _ | (simp; done) | (simp; omega)) _)))) hc hl 8 8 (by omega) (by decide)).mono ?_
  rw [Hx8.out]
  rintro e w' ⟨rfl, n, rfl⟩
  go_wp2_with fail
  refine (value_q A c l _ (HC.out _ (by repeat (first | (with_reducible exact Below.refl _ _) | (with_reducible refine pw_below_drewN ?_ _) | (with_reducible refine Below.setCell ?_ (by first | exact Nat.le_refl _ | exact Nat.le_succ _ | (simp; done) | (simp; omega)) _) | (with_reducible refine Below.alloc ?_ (by first | exact Nat.le_refl _ | exact Nat.le_succ _ | (simp; done) | (simp; omega)) _)))) hc hl 16 8 (by omega) (by decide)).mono ?_
  rw [Hx16.out]
  rintro e w' ⟨rfl, n, rfl⟩
  go_wp2_with fail
  refine (value_q A c l _ (HC.out _ (by repeat (first | (with_reducible exact Below.refl _ _) | (with_reducible refine pw_below_drewN ?_ _) | (with_reducible refine Below.setCell ?_ (by first | exact Nat.le_refl _ | exact Nat.le_succ _ | (simp; done) | (simp; omega)) _) | (with_reducible refine Below.alloc ?_ (by first | exact Nat.le_refl _ | exact Nat.le_succ _ | (simp; done) | (simp; omega)) _)))) hc hl 24 8 (by omega) (by decide)).mono ?_
  rw [Hx24.out]
  rintro e w' ⟨rfl, n, rfl⟩
  go_wp2_with fail
  refine (tail_q A c l _ (HC.out _ (by repeat (first | (with_reducible exact Below.refl _ _) | (with_reducible refine pw_below_drewN ?_ _) | (with_reducible refine Below.setCell ?_ (by first | exact Nat.le_refl _ | exact Nat.le_succ _ | (simp; done) | (simp; omega)) _) | (with_reducible refine Below.alloc ?_ (by first | exact Nat.le_refl _ | exact Nat.le_succ _ | (simp; done) | (simp; omega)) _)))) hc hl 32 (x24) m (by decide) (by decide) (by omega) (by omega) q0 q1 (32) 12 HT.out).mono ?_
  rintro e w' ⟨rfl, n, rfl⟩
  go_wp2_with fail
  refine bodyPost_ret (results_ctt rfl _ _ w.heap.size 41 #[.int .u16 x4, .int .u16 x6, .int .u64 x8, .int .u64 x16, .slice none 0 0] (0, 0) _ rfl ?hg Try.underlying41 rfl (by kernel_rfl)) rfl ?_
  case hg =>
    with_reducible refine blk_put (cs := #[.int .u16 x4, .int .u16 x6, .int .u64 x8, .int .u64 x16, .slice none 0 0]) ?_ 4 _ rfl
    with_reducible refine blk_put (cs := #[.int .u16 x4, .int .u16 x6, .int .u64 x8, .int .u64 0, .slice none 0 0]) ?_ 3 _ rfl
    with_reducible refine blk_put (cs := #[.int .u16 x4, .int .u16 x6, .int .u64 0, .int .u64 0, .slice none 0 0]) ?_ 2 _ rfl
    with_reducible refine blk_put (cs := #[.int .u16 x4, .int .u16 0, .int .u64 0, .int .u64 0, .slice none 0 0]) ?_ 1 _ rfl
    with_reducible refine blk_put (cs := #[.int .u16 0, .int .u16 0, .int .u64 0, .int .u64 0, .slice none 0 0]) ?_ 0 _ rfl
    repeat (first | (with_reducible refine blk_drewN ?_ _) | (with_reducible refine blk_far ?_ (by first | (simp; done) | (simp; omega)) _) | (with_reducible exact blk_new _ _) | (with_reducible refine blk_alloc ?_ _))
  exact ⟨_, rfl, Kd.R_nil _ _ _ _ _, (by repeat (first | (with_reducible exact Below.refl _ _) | (with_reducible refine pw_below_drewN ?_ _) | (with_reducible refine Below.setCell ?_ (by first | exact Nat.le_refl _ | exact Nat.le_succ _ | (simp; done) | (simp; omega)) _) | (with_reducible refine Below.alloc ?_ (by first | exact Nat.le_refl _ | exact Nat.le_succ _ | (simp; done) | (simp; omega)) _)))⟩

set_option maxHeartbeats 4000000 in
set_option maxRecDepth 100000 in
theorem rchkt_cut (A : Option Addr) (c : Nat) (l : List Int) (m : Int) (w : World) (hC : ∀ W, Below w.heap.size w W → Kd.C (Kd.int .u8) W A l.length l) (hc : l.length ≤ c) (hl : l.length ≤ 140737488355000) (hm : 32 ≤ l.length) (hmg : vat l 0 4 = 1854547852) (q0 : 0 ≤ m) (q1 : m ≤ 4294967295) (x4 x6 x8 x16 x24 : Int) (hx4 : vat l 4 2 = x4) (hx6 : vat l 6 2 = x6) (hx8 : vat l 8 8 = x8) (hx16 : vat l 16 8 = x16) (hx24 : vat l 24 8 = x24) (rx4 : 0 ≤ x4 ∧ x4 < 65536) (rx6 : 0 ≤ x6 ∧ x6 < 65536) (rx8 : 0 ≤ x8 ∧ x8 < 18446744073709551616) (rx16 : 0 ≤ x16 ∧ x16 < 18446744073709551616) (rx24 : 0 ≤ x24 ∧ x24 < 18446744073709551616) (hx : ¬ x24 > m) (hy : (l.length : Int) < 32 + x24) :
    Calls Try.prog 58 #[.slice A l.length c, .int .u32 m, .bool true] w fun e w' => ∃ v_ : Value, e = .returned (.tuple #[.agg #[.int .u16 0, .int .u16 0, .int .u64 0, .int .u64 0, v_], .int .i64 (32 + x24), .int .i64 10]) ∧ Kd.R (Kd.int .u8) 5 w' w.heap.size (fun _ => True) v_ [] ∧ Below w.heap.size w w' := by
  have HC := Lib.hid hC
  clear hC
  have Hx4 := Lib.hid hx4
  have Hx6 := Lib.hid hx6
  have Hx8 := Lib.hid hx8
  have Hx16 := Lib.hid hx16
  have Hx24 := Lib.hid hx24
  clear hx4 hx6 hx8 hx16 hx24
  have mx4 : IntKind.u16.wrap x4 = x4 := by rw [u16_mod]; omega
  have mx4' : x4 % 65536 = x4 := by omega
  have mx6 : IntKind.u16.wrap x6 = x6 := by rw [u16_mod]; omega
  have mx6' : x6 % 65536 = x6 := by omega
  have HR : Hid ((if l.length < 32 then ((32 : Int), (10 : Int)) else if 4 = 0 then (0, 0) else if vat l 0 4 = 1854547852 then (0, 0) else (0, 80)) = (0, 0)) := Lib.hid (by rw [if_neg (by omega), if_neg (by decide), if_pos hmg])
  have HT : Hid ((if x24 > m then ((32 : Int), (12 : Int)) else if (l.length : Int) < 32 + x24 then (32 + x24, 10) else (32 + x24, 0)) = ((32 + x24), 10)) := Lib.hid (by simp only [*, if_true, if_false]; first | done | rfl | (simp [*]; done) | (simp [*]; omega))
  clear hmg
  go_enter Try.func58, Try.ntmps58
  go_wp2_with fail
  refine (head_q A c l _ (HC.out _ (by repeat (first | (with_reducible exact Below.refl _ _) | (with_reducible refine pw_below_drewN ?_ _) | (with_reducible refine Below.setCell ?_ (by first | exact Nat.le_refl _ | exact Nat.le_succ _ | (simp; done) | (simp; omega)) _) | (with_reducible refine Below.alloc ?_ (by first | exact Nat.le_refl _ | exact Nat.le_succ _ | (simp; done) | (simp; omega)) _)))) hc hl 32 1854547852 4 (by decide) (by decide) 0 0 HR.out).mono ?_
  rintro e w' ⟨rfl, n, rfl⟩
  go_wp2_with fail
  refine (value_q A c l _ (HC.out _ (by repeat (first | (with_reducible exact Below.refl _ _) | (with_reducible refine pw_below_drewN ?_ _) | (with_reducible refine Below.setCell ?_ (by first | exact Nat.le_refl _ | exact Nat.le_succ _ | (simp; done) | (simp; omega)) _) | (with_reducible refine Below.alloc ?_ (by first | exact Nat.le_refl _ | exact Nat.le_succ _ | (simp; done) | (simp; omega)) _)))) hc hl 4 2 (by omega) (by decide)).mono ?_
  rw [Hx4.out]
  rintro e w' ⟨rfl, n, rfl⟩
  go_wp2_with fail
  refine (value_q A c l _ (HC.out _ (by repeat (first | (with_reducible exact Below.refl _ _) | (with_reducible refine pw_below_drewN ?_ _) | (with_reducible refine Below.setCell ?_ (by first | exact Nat.le_refl _ | exact Nat.le_succ _ | (simp; done) | (simp; omega)) _) | (with_reducible refine Below.alloc ?_ (by first | exact Nat.le_refl _ | exact Nat.le_succ _ | (simp; done) | (simp; omega)) _)))) hc hl 6 2 (by omega) (by decide)).mono ?_
  rw [Hx6.out]
  rintro e w' ⟨rfl, n, rfl⟩
  go_wp2_with fail
  refine (value_q A c l _ (HC.out _ (by repeat (first | (with_reducible exact Below.refl _ _) | (with_reducible refine pw_below_drewN ?_ _) | (with_reducible refine Below.setCell ?_ (by first | exact Nat.le_refl _ | exact Nat.le_succ _ | (simp; done) | (simp; omega)) _) | (with_reducible refine Below.alloc ?_ (by first | exact Nat.le_refl _ | exact Nat.le_succ _ | (simp; done) | (simp; omega)) _)))) hc hl 8 8 (by omega) (by decide)).mono ?_
  rw [Hx8.out]
  rintro e w' ⟨rfl, n, rfl⟩
  go_wp2_with fail
  refine (value_q A c l _ (HC.out _ (by repeat (first | (with_reducible exact Below.refl _ _) | (with_reducible refine pw_below_drewN ?_ _) | (with_reducible refine Below.setCell ?_ (by first | exact Nat.le_refl _ | exact Nat.le_succ _ | (simp; done) | (simp; omega)) _) | (with_reducible refine Below.alloc ?_ (by first | exact Nat.le_refl _ | exact Nat.le_succ _ | (simp; done) | (simp; omega)) _)))) hc hl 16 8 (by omega) (by decide)).mono ?_
  rw [Hx16.out]
  rintro e w' ⟨rfl, n, rfl⟩
  go_wp2_with fail
  refine (value_q A c l _ (HC.out _ (by repeat (first | (with_reducible exact Below.refl _ _) | (with_reducible refine pw_below_drewN ?_ _) | (with_reducible refine Below.setCell ?_ (by first | exact Nat.le_refl _ | exact Nat.le_succ _ | (simp; done) | (simp; omega)) _) | (with_reducible refine Below.alloc ?_ (by first | exact Nat.le_refl _ | exact Nat.le_succ _ | (simp; done) | (simp; omega)) _)))) hc hl 24 8 (by omega) (by decide)).mono ?_
  rw [Hx24.out]
  rintro e w' ⟨rfl, n, rfl⟩
  go_wp2_with fail
  refine (tail_q A c l _ (HC.out _ (by repeat (first | (with_reducible exact Below.refl _ _) | (with_reducible refine pw_below_drewN ?_ _) | (with_reducible refine Below.setCell ?_ (by first | exact Nat.le_refl _ | exact Nat.le_succ _ | (simp; done) | (simp; omega)) _) | (with_reducible refine Below.alloc ?_ (by first | exact Nat.le_refl _ | exact Nat.le_succ _ | (simp; done) | (simp; omega)) _)))) hc hl 32 (x24) m (by decide) (by decide) (by omega) (by omega) q0 q1 ((32 + x24)) 10 HT.out).mono ?_
  rintro e w' ⟨rfl, n, rfl⟩
  go_wp2_with fail
  refine bodyPost_ret (results_ctt rfl _ _ w.heap.size 41 #[.int .u16 0, .int .u16 0, .int .u64 0, .int .u64 0, .slice none 0 0] (0, 0) _ rfl ?hg Try.underlying41 rfl (by kernel_rfl)) rfl ?_
  case hg =>
    with_reducible refine blk_put (cs := #[.int .u16 0, .int .u16 0, .int .u64 0, .int .u64 0, .slice none 0 0]) ?_ 4 _ rfl
    with_reducible refine blk_put (cs := #[.int .u16 0, .int .u16 0, .int .u64 0, .int .u64 0, .slice none 0 0]) ?_ 3 _ rfl
    with_reducible refine blk_put (cs := #[.int .u16 0, .int .u16 0, .int .u64 0, .int .u64 0, .slice none 0 0]) ?_ 2 _ rfl
    with_reducible refine blk_put (cs := #[.int .u16 0, .int .u16 0, .int .u64 0, .int .u64 0, .slice none 0 0]) ?_ 1 _ rfl
    with_reducible refine blk_put (cs := #[.int .u16 0, .int .u16 0, .int .u64 0, .int .u64 0, .slice none 0 0]) ?_ 0 _ rfl
    repeat (first | (with_reducible refine blk_drewN ?_ _) | (with_reducible refine blk_far ?_ (by first | (simp; done) | (simp; omega)) _) | (with_reducible exact blk_new _ _) | (with_reducible refine blk_alloc ?_ _))
  exact ⟨_, rfl, Kd.R_nil _ _ _ _ _, (by repeat (first | (with_reducible exact Below.refl _ _) | (with_reducible refine pw_below_drewN ?_ _) | (with_reducible refine Below.setCell ?_ (by first | exact Nat.le_refl _ | exact Nat.le_succ _ | (simp; done) | (simp; omega)) _) | (with_reducible refine Below.alloc ?_ (by first | exact Nat.le_refl _ | exact Nat.le_succ _ | (simp; done) | (simp; omega)) _)))⟩

set_option maxHeartbeats 4000000 in
set_option maxRecDepth 100000 in
theorem rchkt_full (A : Option Addr) (c : Nat) (l : List Int) (m : Int) (w : World) (hC : ∀ W, Below w.heap.size w W → Kd.C (Kd.int .u8) W A l.length l) (hc : l.length ≤ c) (hl : l.length ≤ 140737488355000) (hm : 32 ≤ l.length) (hmg : vat l 0 4 = 1854547852) (q0 : 0 ≤ m) (q1 : m ≤ 4294967295) (x4 x6 x8 x16 x24 : Int) (hx4 : vat l 4 2 = x4) (hx6 : vat l 6 2 = x6) (hx8 : vat l 8 8 = x8) (hx16 : vat l 16 8 = x16) (hx24 : vat l 24 8 = x24) (rx4 : 0 ≤ x4 ∧ x4 < 65536) (rx6 : 0 ≤ x6 ∧ x6 < 65536) (rx8 : 0 ≤ x8 ∧ x8 < 18446744073709551616) (rx16 : 0 ≤ x16 ∧ x16 < 18446744073709551616) (rx24 : 0 ≤ x24 ∧ x24 < 18446744073709551616) (hx : ¬ x24 > m) (hy : ¬ (l.length : Int) < 32 + x24) :
    Calls Try.prog 58 #[.slice A l.length c, .int .u32 m, .bool true] w fun e w' => ∃ v_ : Value, e = .returned (.tuple #[.agg #[.int .u16 x4, .int .u16 x6, .int .u64 x8, .int .u64 x16, v_], .int .i64 (32 + x24), .int .i64 0]) ∧ Kd.R (Kd.int .u8) 5 w' w.heap.size (fun _ => True) v_ ((l.take (32 + x24 : Int).toNat).drop (32 : Int).toNat) ∧ Below w.heap.size w w' := by
  have HC := Lib.hid hC
  clear hC
  have Hx4 := Lib.hid hx4
  have Hx6 := Lib.hid hx6
  have Hx8 := Lib.hid hx8
  have Hx16 := Lib.hid hx16
  have Hx24 := Lib.hid hx24
  clear hx4 hx6 hx8 hx16 hx24
  have mx4 : IntKind.u16.wrap x4 = x4 := by rw [u16_mod]; omega
  have mx4' : x4 % 65536 = x4 := by omega
  have mx6 : IntKind.u16.wrap x6 = x6 := by rw [u16_mod]; omega
  have mx6' : x6 % 65536 = x6 := by omega
  have HR : Hid ((if l.length < 32 then ((32 : Int), (10 : Int)) else if 4 = 0 then (0, 0) else if vat l 0 4 = 1854547852 then (0, 0) else (0, 80)) = (0, 0)) := Lib.hid (by rw [if_neg (by omega), if_neg (by decide), if_pos hmg])
  have HT : Hid ((if x24 > m then ((32 : Int), (12 : Int)) else if (l.length : Int) < 32 + x24 then (32 + x24, 10) else (32 + x24, 0)) = ((32 + x24), 0)) := Lib.hid (by simp only [*, if_true, if_false]; first | done | rfl | (simp [*]; done) | (simp [*]; omega))
  clear hmg
  obtain ⟨ds, HDS⟩ : ∃ ds, Hid (ds = (l.take ((32 + x24) : Int).toNat).drop (32 : Int).toNat) := ⟨_, Lib.hid rfl⟩
  have hdl : ds.length ≤ 140737488355000 := by rw [HDS.out, List.length_drop, List.length_take]; omega
  obtain ⟨i08, hi08, _, hsz8, _⟩ := info_parts info_u8
  obtain ⟨A', hcut, hA, hcc⟩ := print_mid_of (P := Try.prog) (Value.int .u8) 0 31 5 .i64 .i64 Try.underlying31 hi08 hsz8 A c l 32 ((32 + x24)) (by decide) (by omega) (by omega) hc
  rw [← HDS.out] at hcut hA hcc
  have HD : Hid (∀ W, Below w.heap.size w W → Kd.C (Kd.int .u8) W A' ds.length ds) := Lib.hid fun W hW => Kd.C_of_reads (d := (0 : Int)) (h1 := fun _ => rfl) (hA _ (Kd.reads_of_C (HC.out _ hW)))
  have HCC := Lib.hid hcc
  clear hA hcc hi08 hsz8
  rw [← HDS.out]
  go_enter Try.func58, Try.ntmps58
  go_wp2_with fail
  refine (head_q A c l _ (HC.out _ (by repeat (first | (with_reducible exact Below.refl _ _) | (with_reducible refine pw_below_drewN ?_ _) | (with_reducible refine Below.setCell ?_ (by first | exact Nat.le_refl _ | exact Nat.le_succ _ | (simp; done) | (simp; omega)) _) | (with_reducible refine Below.alloc ?_ (by first | exact Nat.le_refl _ | exact Nat.le_succ _ | (simp; done) | (simp; omega)) _)))) hc hl 32 1854547852 4 (by decide) (by decide) 0 0 HR.out).mono ?_
  rintro e w' ⟨rfl, n, rfl⟩
  go_wp2_with fail
  refine (value_q A c l _ (HC.out _ (by repeat (first | (with_reducible exact Below.refl _ _) | (with_reducible refine pw_below_drewN ?_ _) | (with_reducible refine Below.setCell ?_ (by first | exact Nat.le_refl _ | exact Nat.le_succ _ | (simp; done) | (simp; omega)) _) | (with_reducible refine Below.alloc ?_ (by first | exact Nat.le_refl _ | exact Nat.le_succ _ | (simp; done) | (simp; omega)) _)))) hc hl 4 2 (by omega) (by decide)).mono ?_
  rw [Hx4.out]
  rintro e w' ⟨rfl, n, rfl⟩
  go_wp2_with fail
  refine (value_q A c l _ (HC.out _ (by repeat (first | (with_reducible exact Below.refl _ _) | (with_reducible refine pw_below_drewN ?_ _) | (with_reducible refine Below.setCell ?_ (by first | exact Nat.le_refl _ | exact Nat.le_succ _ | (simp; done) | (simp; omega)) _) | (with_reducible refine Below.alloc ?_ (by first | exact Nat.le_refl _ | exact Nat.le_succ _ | (simp; done) | (simp; omega)) _)))) hc hl 6 2 (by omega) (by decide)).mono ?_
  rw [Hx6.out]
  rintro e w' ⟨rfl, n, rfl⟩
  go_wp2_with fail
  refine (value_q A c l _ (HC.out _ (by repeat (first | (with_reducible exact Below.refl _ _) | (with_reducible refine pw_below_drewN ?_ _) | (with_reducible refine Below.setCell ?_ (by first | exact Nat.le_refl _ | exact Nat.le_succ _ | (simp; done) | (simp; omega)) _) | (with_reducible refine Below.alloc ?_ (by first | exact Nat.le_refl _ | exact Nat.le_succ _ | (simp; done) | (simp; omega)) _)))) hc hl 8 8 (by omega) (by decide)).mono ?_
  rw [Hx8.out]
  rintro e w' ⟨rfl, n, rfl⟩
  go_wp2_with fail
  refine (value_q A c l _ (HC.out _ (by repeat (first | (with_reducible exact Below.refl _ _) | (with_reducible refine pw_below_drewN ?_ _) | (with_reducible refine Below.setCell ?_ (by first | exact Nat.le_refl _ | exact Nat.le_succ _ | (simp; done) | (simp; omega)) _) | (with_reducible refine Below.alloc ?_ (by first | exact Nat.le_refl _ | exact Nat.le_succ _ | (simp; done) | (simp; omega)) _)))) hc hl 16 8 (by omega) (by decide)).mono ?_
  rw [Hx16.out]
  rintro e w' ⟨rfl, n, rfl⟩
  go_wp2_with fail
  refine (value_q A c l _ (HC.out _ (by repeat (first | (with_reducible exact Below.refl _ _) | (with_reducible refine pw_below_drewN ?_ _) | (with_reducible refine Below.setCell ?_ (by first | exact Nat.le_refl _ | exact Nat.le_succ _ | (simp; done) | (simp; omega)) _) | (with_reducible refine Below.alloc ?_ (by first | exact Nat.le_refl _ | exact Nat.le_succ _ | (simp; done) | (simp; omega)) _)))) hc hl 24 8 (by omega) (by decide)).mono ?_
  rw [Hx24.out]
  rintro e w' ⟨rfl, n, rfl⟩
  go_wp2_with fail
  refine (tail_q A c l _ (HC.out _ (by repeat (first | (with_reducible exact Below.refl _ _) | (with_reducible refine pw_below_drewN ?_ _) | (with_reducible refine Below.setCell ?_ (by first | exact Nat.le_refl _ | exact Nat.le_succ _ | (simp; done) | (simp; omega)) _) | (with_reducible refine Below.alloc ?_ (by first | exact Nat.le_refl _ | exact Nat.le_succ _ | (simp; done) | (simp; omega)) _)))) hc hl 32 (x24) m (by decide) (by decide) (by omega) (by omega) q0 q1 ((32 + x24)) 0 HT.out).mono ?_
  rintro e w' ⟨rfl, n, rfl⟩
  go_wp2_with fail
  refine (spindleref01_Copy.calls A' (c - (32 : Int).toNat) ds ds _ (HD.out _ (by repeat (first | (with_reducible exact Below.refl _ _) | (with_reducible refine pw_below_drewN ?_ _) | (with_reducible refine Below.setCell ?_ (by first | exact Nat.le_refl _ | exact Nat.le_succ _ | (simp; done) | (simp; omega)) _) | (with_reducible refine Below.alloc ?_ (by first | exact Nat.le_refl _ | exact Nat.le_succ _ | (simp; done) | (simp; omega)) _)))) HCC.out (copy_is ds (by omega))).mono ?_
  rintro e w5 ⟨v5, rfl, hR5, hb5⟩
  obtain ⟨A5, c5, rfl, _, _⟩ := C_of_R hR5
  have HZ5 := Lib.hid ((hb5.block w.heap.size (by first | (simp; done) | (simp; omega))).trans (by repeat (first | (with_reducible refine blk_drewN ?_ _) | (with_reducible refine blk_far ?_ (by first | (simp; done) | (simp; omega)) _) | (with_reducible exact blk_new _ _) | (with_reducible refine blk_alloc ?_ _)) : _ = some (.cells #[.int .u16 0, .int .u16 0, .int .u64 0, .int .u64 0, .slice none 0 0] 41 (0, 0)))); have HB5 : Hid (Below w.heap.size w w5) := Lib.hid (Below.trans (by repeat (first | (with_reducible exact Below.refl _ _) | (with_reducible refine pw_below_drewN ?_ _) | (with_reducible refine Below.setCell ?_ (by first | exact Nat.le_refl _ | exact Nat.le_succ _ | (simp; done) | (simp; omega)) _) | (with_reducible refine Below.alloc ?_ (by first | exact Nat.le_refl _ | exact Nat.le_succ _ | (simp; done) | (simp; omega)) _))) (hb5.mono (by first | (simp; done) | (simp; omega)))); have HR5 := Lib.hid (Kd.R_lower hR5 (by first | (simp; done) | (simp; omega) : w.heap.size + 2 ≤ _)); obtain ⟨bc, bf⟩ := below_rules hb5; (have cz0 : w5.cell? ⟨w.heap.size, 0, none⟩ = some (.int .u16 0) := (bc w.heap.size 0 (by first | (simp; done) | (simp; omega))).trans (by simp [go_sem, *])); (have cz1 : w5.cell? ⟨w.heap.size, 1, none⟩ = some (.int .u16 0) := (bc w.heap.size 1 (by first | (simp; done) | (simp; omega))).trans (by simp [go_sem, *])); (have cz2 : w5.cell? ⟨w.heap.size, 2, none⟩ = some (.int .u64 0) := (bc w.heap.size 2 (by first | (simp; done) | (simp; omega))).trans (by simp [go_sem, *])); (have cz3 : w5.cell? ⟨w.heap.size, 3, none⟩ = some (.int .u64 0) := (bc w.heap.size 3 (by first | (simp; done) | (simp; omega))).trans (by simp [go_sem, *])); (have cz4 : w5.cell? ⟨w.heap.size, 4, none⟩ = some (.slice none 0 0) := (bc w.heap.size 4 (by first | (simp; done) | (simp; omega))).trans (by simp [go_sem, *])); (have co0 : w5.cell? ⟨w.heap.size + 1, 0, none⟩ = some (.int .u16 x4) := (bc (w.heap.size + 1) 0 (by first | (simp; done) | (simp; omega))).trans (by simp [go_sem, *])); (have co1 : w5.cell? ⟨w.heap.size + 1, 1, none⟩ = some (.int .u16 x6) := (bc (w.heap.size + 1) 1 (by first | (simp; done) | (simp; omega))).trans (by simp [go_sem, *])); (have co2 : w5.cell? ⟨w.heap.size + 1, 2, none⟩ = some (.int .u64 x8) := (bc (w.heap.size + 1) 2 (by first | (simp; done) | (simp; omega))).trans (by simp [go_sem, *])); (have co3 : w5.cell? ⟨w.heap.size + 1, 3, none⟩ = some (.int .u64 x16) := (bc (w.heap.size + 1) 3 (by first | (simp; done) | (simp; omega))).trans (by simp [go_sem, *])); (have co4 : w5.cell? ⟨w.heap.size + 1, 4, none⟩ = some (.slice none 0 0) := (bc (w.heap.size + 1) 4 (by first | (simp; done) | (simp; omega))).trans (by simp [go_sem, *])); (have cfz : ∀ o, w5.frozen? ⟨w.heap.size, o, none⟩ = false := fun o => (bf w.heap.size o (by first | (simp; done) | (simp; omega))).trans (by simp [go_sem, *])); (have cfo : ∀ o, w5.frozen? ⟨w.heap.size + 1, o, none⟩ = false := fun o => (bf (w.heap.size + 1) o (by first | (simp; done) | (simp; omega))).trans (by simp [go_sem, *])); (have csz : w.heap.size + 1 < w5.heap.size := by have := hb5.size; simp at this; omega); clear bc bf; clear hb5 hR5
  go_wp2_with fail
  refine bodyPost_ret (results_ctt rfl _ _ w.heap.size 41 #[.int .u16 x4, .int .u16 x6, .int .u64 x8, .int .u64 x16, .slice A5 ds.length c5] (0, 0) _ rfl ?hg Try.underlying41 rfl (by kernel_rfl)) rfl ?_
  case hg =>
    with_reducible refine blk_put (cs := #[.int .u16 x4, .int .u16 x6, .int .u64 x8, .int .u64 x16, .slice none 0 0]) ?_ 4 _ rfl
    with_reducible refine blk_put (cs := #[.int .u16 x4, .int .u16 x6, .int .u64 x8, .int .u64 0, .slice none 0 0]) ?_ 3 _ rfl
    with_reducible refine blk_put (cs := #[.int .u16 x4, .int .u16 x6, .int .u64 0, .int .u64 0, .slice none 0 0]) ?_ 2 _ rfl
    with_reducible refine blk_put (cs := #[.int .u16 x4, .int .u16 0, .int .u64 0, .int .u64 0, .slice none 0 0]) ?_ 1 _ rfl
    with_reducible refine blk_put (cs := #[.int .u16 0, .int .u16 0, .int .u64 0, .int .u64 0, .slice none 0 0]) ?_ 0 _ rfl
    repeat (first | (with_reducible exact HZ5.out) | (with_reducible refine blk_drewN ?_ _) | (with_reducible refine blk_far ?_ (by first | (simp; done) | (simp; omega)) _) | (with_reducible exact blk_new _ _) | (with_reducible refine blk_alloc ?_ _))
  exact ⟨_, rfl, Kd.R_lower (by repeat (first | (with_reducible exact HR5.out) | refine R_setlow ?_ (by omega) _)) (by omega : w.heap.size ≤ w.heap.size + 2), (by repeat (first | (with_reducible exact HB5.out) | (with_reducible refine Below.setCell ?_ (by first | exact Nat.le_refl _ | exact Nat.le_succ _ | (simp; done) | (simp; omega)) _)))⟩

end Go.Proofs.Ytilgfhiomcfmhaa.PureD
