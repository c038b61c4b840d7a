/- Package wire's DecodeExport: what it takes, of every row of bytes shorter than 2^47. -/
import Derived.Test.YtilgfhiomcfmhaaWirb
namespace Go.Proofs.Ytilgfhiomcfmhaa.Hand
open Go.RowKit Go.Proofs.YtilgfhiomcfmhaaW.PrintWords Go.Proofs.YtilgfhiomcfmhaaW.PrintLast Go.Proofs.Ytilgfhiomcfmhaa.Octa
set_option linter.unusedVariables false
set_option linter.unusedSimpArgs false
def wire_DecodeExport.f (l0 : List Int) (x0 : Bool) : Option (Int × Int × Int × Int) :=
  if l0.length ≤ 140737488355000 then
    (if x0 = true then (if l0.length < 134 then some (0, 0, 134, 10) else if ((l0.take 134).drop 10).all (· == 0) = true then some (vat l0 0 8, vat l0 8 2 % 65536, 134, 0) else some (0, 0, 0, 81))
     else (if l0.length < 10 then some (0, 0, 10, 10) else some (vat l0 0 8, vat l0 8 2 % 65536, 10, 0)))
  else none

theorem C_off {w : World} {ad : Addr} {l0 : List Int} (h : Kd.C (Kd.int .u8) w (some ad) l0.length l0) : ∀ j, 1 ≤ j → j < l0.length → w.cell? ⟨ad.block, ad.off + j, none⟩ = some (.int .u8 (l0.getD j 0)) := by
  intro j h1 hj
  obtain ⟨ad', he, hc⟩ := C_cells h (by omega)
  injection he with he
  subst he
  have := hc j (.int .u8 (l0.getD j 0)) (by simp [nums, List.getD, List.getElem?_eq_getElem hj])
  unfold Addr.add at this
  rw [if_neg (by omega)] at this
  exact this

theorem zeros_to {l : List Int} {k : Nat} (hl : 134 ≤ l.length) (h : ∀ j, j < 124 → l.getD (10 + j) 0 = 0) : ((l.take 134).drop 10).all (· == 0) = true := by
  rw [List.all_eq_true]
  intro x hx
  obtain ⟨i, hi, rfl⟩ := List.mem_iff_getElem.1 hx
  have hi2 : i < 124 := by simp at hi; omega
  have := h i hi2
  rw [List.getD_eq_getElem?_getD, List.getElem?_eq_getElem (by omega)] at this
  simp only [List.getElem_drop, List.getElem_take, beq_iff_eq]
  simpa using this
theorem zeros_not {l : List Int} {k : Nat} (hl : 134 ≤ l.length) (hk : k < 124) (h : ¬ l.getD (10 + k) 0 = 0) : ¬ ((l.take 134).drop 10).all (· == 0) = true := by
  intro ha
  rw [List.all_eq_true] at ha
  have hm : l[10 + k]'(by omega) ∈ (l.take 134).drop 10 := by
    rw [List.mem_iff_getElem]
    exact ⟨k, by simp; omega, by simp [List.getElem_drop, List.getElem_take]⟩
  have := ha _ hm
  rw [List.getD_eq_getElem?_getD, List.getElem?_eq_getElem (by omega)] at h
  exact h (by simpa using this)

set_option maxHeartbeats 4000000 in
set_option maxRecDepth 100000 in
theorem export_long (A0 : Option Addr) (c0 : Nat) (l0 : List Int) (r1 r2 r3 r4 : Int) (w : World) (hr0 : Kd.C (Kd.int .u8) w A0 l0.length l0) (hc0 : l0.length ≤ c0) (hb : l0.length ≤ 140737488355000) (hm : 134 ≤ l0.length)
    (h : (if ((l0.take 134).drop 10).all (· == 0) = true then some (vat l0 0 8, vat l0 8 2 % 65536, (134 : Int), (0 : Int)) else some (0, 0, 0, 81)) = some (r1, r2, r3, r4)) :
    Calls Try.prog 40 #[.slice A0 l0.length c0, .bool true] w fun e w' => e = .returned (.tuple #[.agg #[.int .u64 r1, .int .u16 r2], .int .i64 r3, .int .i64 r4]) ∧ Below w.heap.size w w' := by
  obtain ⟨ad, rfl, _⟩ := id (hr0.2.2 (by omega))
  have hne : ¬ c0 = 10 := by omega
  have HCELL := Lib.hid (C_off hr0)
  have HAD : Hid (ad.block < w.heap.size) := Lib.hid (World.block_lt_of_cell? w ⟨ad.block, ad.off + 1, none⟩ (C_off hr0 1 (by omega) (by omega)))
  have HC : Hid (Kd.C (Kd.int .u8) (w.alloc (.cells #[.int .u64 0, .int .u16 0] 57)) (some ad) l0.length l0) := Lib.hid (Kd.C_below hr0 (below_alloc (Below.refl _ _) _))
  have HL : Hid (l0.length ≤ 281474976710656) := Lib.hid (by omega)
  have HM : Hid (10 ≤ l0.length) := Lib.hid (by omega)
  have HH := Lib.hid h
  clear hr0 h
  go_enter Try.func40, Try.ntmps40
  go_wp2
  go_loop [9, 24] (fun _ i => ∃ k : Nat, k ≤ 124 ∧ i = .int .i64 k ∧ ∀ j, j < k → l0.getD (10 + j) 0 = 0) (fun _ i => 124 - (intOf i).toNat)
  case atStart => exact ⟨0, Nat.zero_le _, rfl, fun j hj => absurd hj (by omega)⟩
  case round =>
    obtain ⟨k, hk, rfl, hz⟩ := hrel
    have HZ := Lib.hid hz
    clear hz
    by_cases hlt : k < 124
    · have had := HAD.out
      have hck : w.cell? ⟨ad.block, ad.off + 10 + k, none⟩ = some (.int .u8 (l0.getD (10 + k) 0)) := by
        have := HCELL.out (10 + k) (by omega) (by omega)
        rwa [← Nat.add_assoc] at this
      obtain ⟨c, hc⟩ : ∃ c, c = l0.getD (10 + k) 0 := ⟨_, rfl⟩
      rw [← hc] at hck
      by_cases hz0 : c = 0
      · subst hz0
        have HK := Lib.hid hc
        clear hc
        go_wp2
        go_round
        case rel =>
          refine ⟨k + 1, by omega, ?_, ?_⟩
          · go_num
          · intro j hj
            rcases Nat.lt_or_ge j k with h1 | h1
            · exact HZ.out j h1
            · obtain rfl : j = k := by omega
              exact HK.out.symm
        case measure => simp [intOf]; omega
      · have hzb : (c != 0) = true := bne_iff_ne.mpr hz0
        have h := HH.out
        rw [if_neg (zeros_not hm hlt (by rw [← hc]; exact hz0))] at h
        clear hc
        simp only [Option.some.injEq, Prod.mk.injEq] at h
        obtain ⟨rfl, rfl, rfl, rfl⟩ := h
        go_wp2
        exact bodyPost_ret (v := .tuple #[.agg #[.int .u64 0, .int .u16 0], .int .i64 0, .int .i64 81]) (by simp [results, Try.results40, go_sem]) rfl ⟨rfl, by repeat (first | exact Below.refl _ _ | refine Below.setCell ?_ (Nat.le_refl _) _ | refine Below.alloc ?_ (Nat.le_refl _) _)⟩
    · obtain rfl : k = 124 := by omega
      have h := HH.out
      rw [if_pos (zeros_to (k := 0) hm HZ.out)] at h
      simp only [Option.some.injEq, Prod.mk.injEq] at h
      obtain ⟨rfl, rfl, rfl, rfl⟩ := h
      go_wp2_with (first | (go_at_call 76; go_must (refine (NewReader_rs _ _ _ l0 _ HM.out HC.out HL.out).mono ?_); rintro e w1 ⟨g, sv, rfl, ⟨hg, hgr⟩, hrd, hbel⟩; obtain ⟨bc, bf⟩ := below_rules hbel; (have n0 : ¬ w.heap.size = g := by simp at hg; omega); (have n0' : ¬ g = w.heap.size := fun e => n0 e.symm); (have HROW := Lib.hid (fun k (hk : sv.ownBlock = some k) => And.intro (hrd.lt.2 k hk) (hgr k hk))); clear hgr; (have n1 : ¬ w1.heap.size = g := fun e => Nat.lt_irrefl _ (e ▸ hrd.lt.1)); (have n1' : ¬ g = w1.heap.size := fun e => n1 e.symm); (have hz1 : w.heap.size < w1.heap.size := by have := hbel.size; simp at this; omega); (have nb : ¬ w1.heap.size = w.heap.size := by omega); (have nb' : ¬ w.heap.size = w1.heap.size := by omega); (have hacc : Below w.heap.size w w1 := ((Below.refl _ _).alloc (Nat.le_refl _) _).trans (hbel.mono (by simp))); (have HG := Lib.hid hg); clear hbel hg) | ((first | (go_at_call 79; refine (numU16_rs (hrd.via ?_) HM.out HL.out (by omega)).mono ?_) | (go_at_call 81; refine (numU32_rs (hrd.via ?_) HM.out HL.out (by omega)).mono ?_) | (go_at_call 77; refine (numU64_rs (hrd.via ?_) HM.out HL.out (by omega)).mono ?_)); (next => (intro hrd; (first | (with_reducible exact hrd) | (with_reducible exact hrd.alloc _) | (with_reducible exact hrd.set (by omega) (fun k hk => by have := HROW.out k hk; simp at this; omega) _) | (with_reducible exact (hrd.alloc _).set (by omega) (fun k hk => by have := HROW.out k hk; simp at this; omega) _) | (with_reducible exact hrd.set6 (by omega) (fun k hk => by have := HROW.out k hk; simp at this; omega) _ _ _ _ _ _)))); rintro e w2 ⟨rfl, hrd, hrf⟩; obtain ⟨rc, rf, rs⟩ := hrf.rules; (try simp at rs); (have hacc : Below w.heap.size w w2 := Below.trans (by (repeat (first | (with_reducible exact hacc) | refine pw_below_drewN ?_ _ | refine Below.setCell ?_ (by first | exact Nat.le_refl _ | (simp; done) | (simp; omega)) _ | refine Below.alloc ?_ (by first | (simp; done) | (simp; omega) | omega) _))) (hrf.below (by have := HG.out; simp at this; omega))); clear hrf))
      exact bodyPost_ret (v := .tuple #[.agg #[.int .u64 (vat l0 0 8), .int .u16 (vat l0 8 2 % 65536)], .int .i64 134, .int .i64 0]) (by simp [results, Try.results40, go_sem, *]) rfl ⟨rfl, by (repeat (first | (with_reducible exact hacc) | refine pw_below_drewN ?_ _ | refine Below.setCell ?_ (by first | exact Nat.le_refl _ | (simp; done) | (simp; omega)) _ | refine Below.alloc ?_ (by first | (simp; done) | (simp; omega) | omega) _))⟩
set_option maxHeartbeats 4000000 in
set_option maxRecDepth 100000 in
theorem export_bare (A0 : Option Addr) (c0 : Nat) (l0 : List Int) (w : World) (hr0 : Kd.C (Kd.int .u8) w A0 l0.length l0) (hc0 : l0.length ≤ c0) (hb : l0.length ≤ 140737488355000) (hm : 10 ≤ l0.length) :
    Calls Try.prog 40 #[.slice A0 l0.length c0, .bool false] w fun e w' => e = .returned (.tuple #[.agg #[.int .u64 (vat l0 0 8), .int .u16 (vat l0 8 2 % 65536)], .int .i64 10, .int .i64 0]) ∧ Below w.heap.size w w' := by
  obtain ⟨ad, rfl, _⟩ := id (hr0.2.2 (by omega))
  have HC : Hid (Kd.C (Kd.int .u8) (w.alloc (.cells #[.int .u64 0, .int .u16 0] 57)) (some ad) l0.length l0) := Lib.hid (Kd.C_below hr0 (below_alloc (Below.refl _ _) _))
  have HL : Hid (l0.length ≤ 281474976710656) := Lib.hid (by omega)
  have HM : Hid (10 ≤ l0.length) := Lib.hid hm
  clear hr0
  by_cases hne : c0 = 10
  all_goals
    go_enter Try.func40, Try.ntmps40
    go_wp2
    go_loop [9, 24] (fun _ i => i = .int .i64 0) (fun _ i => 124 - (intOf i).toNat)
    case atStart => rfl
    case round =>
      subst hrel
      go_wp2_with (first | (go_at_call 76; go_must (refine (NewReader_rs _ _ _ l0 _ HM.out HC.out HL.out).mono ?_); rintro e w1 ⟨g, sv, rfl, ⟨hg, hgr⟩, hrd, hbel⟩; obtain ⟨bc, bf⟩ := below_rules hbel; (have n0 : ¬ w.heap.size = g := by simp at hg; omega); (have n0' : ¬ g = w.heap.size := fun e => n0 e.symm); (have HROW := Lib.hid (fun k (hk : sv.ownBlock = some k) => And.intro (hrd.lt.2 k hk) (hgr k hk))); clear hgr; (have n1 : ¬ w1.heap.size = g := fun e => Nat.lt_irrefl _ (e ▸ hrd.lt.1)); (have n1' : ¬ g = w1.heap.size := fun e => n1 e.symm); (have hz1 : w.heap.size < w1.heap.size := by have := hbel.size; simp at this; omega); (have nb : ¬ w1.heap.size = w.heap.size := by omega); (have nb' : ¬ w.heap.size = w1.heap.size := by omega); (have hacc : Below w.heap.size w w1 := ((Below.refl _ _).alloc (Nat.le_refl _) _).trans (hbel.mono (by simp))); (have HG := Lib.hid hg); clear hbel hg) | ((first | (go_at_call 79; refine (numU16_rs (hrd.via ?_) HM.out HL.out (by omega)).mono ?_) | (go_at_call 81; refine (numU32_rs (hrd.via ?_) HM.out HL.out (by omega)).mono ?_) | (go_at_call 77; refine (numU64_rs (hrd.via ?_) HM.out HL.out (by omega)).mono ?_)); (next => (intro hrd; (first | (with_reducible exact hrd) | (with_reducible exact hrd.alloc _) | (with_reducible exact hrd.set (by omega) (fun k hk => by have := HROW.out k hk; simp at this; omega) _) | (with_reducible exact (hrd.alloc _).set (by omega) (fun k hk => by have := HROW.out k hk; simp at this; omega) _) | (with_reducible exact hrd.set6 (by omega) (fun k hk => by have := HROW.out k hk; simp at this; omega) _ _ _ _ _ _)))); rintro e w2 ⟨rfl, hrd, hrf⟩; obtain ⟨rc, rf, rs⟩ := hrf.rules; (try simp at rs); (have hacc : Below w.heap.size w w2 := Below.trans (by (repeat (first | (with_reducible exact hacc) | refine pw_below_drewN ?_ _ | refine Below.setCell ?_ (by first | exact Nat.le_refl _ | (simp; done) | (simp; omega)) _ | refine Below.alloc ?_ (by first | (simp; done) | (simp; omega) | omega) _))) (hrf.below (by have := HG.out; simp at this; omega))); clear hrf))
      exact bodyPost_ret (v := .tuple #[.agg #[.int .u64 (vat l0 0 8), .int .u16 (vat l0 8 2 % 65536)], .int .i64 10, .int .i64 0]) (by simp [results, Try.results40, go_sem, *]) rfl ⟨rfl, by (repeat (first | (with_reducible exact hacc) | refine pw_below_drewN ?_ _ | refine Below.setCell ?_ (by first | exact Nat.le_refl _ | (simp; done) | (simp; omega)) _ | refine Below.alloc ?_ (by first | (simp; done) | (simp; omega) | omega) _))⟩

set_option maxRecDepth 100000 in
theorem wire_DecodeExport.calls (A0 : Option Addr) (c0 : Nat) (l0 : List Int) (x0 : Bool) (r1 r2 r3 r4 : Int) (w : World) (hr0 : Kd.C (Kd.int .u8) w A0 l0.length l0) (hc0 : l0.length ≤ c0) (h : wire_DecodeExport.f l0 x0 = some (r1, r2, r3, r4)) :
    Calls Try.prog 40 #[.slice A0 l0.length c0, .bool x0] w fun e w' => e = .returned (.tuple #[.agg #[.int .u64 r1, .int .u16 r2], .int .i64 r3, .int .i64 r4]) ∧ Below w.heap.size w w' := by
  unfold wire_DecodeExport.f at h
  split at h
  case isFalse => cases h
  rename_i hb
  cases x0
  · simp only [Bool.false_eq_true, if_false] at h
    by_cases hs : l0.length < 10
    · rw [if_pos hs] at h
      simp only [Option.some.injEq, Prod.mk.injEq] at h
      obtain ⟨rfl, rfl, rfl, rfl⟩ := h
      clear hr0
      go_enter Try.func40, Try.ntmps40
      go_wp2
      exact bodyPost_ret (v := .tuple #[.agg #[.int .u64 0, .int .u16 0], .int .i64 10, .int .i64 10]) (by simp [results, Try.results40, go_sem]) rfl ⟨rfl, below_alloc (Below.refl _ _) _⟩
    · rw [if_neg hs] at h
      simp only [Option.some.injEq, Prod.mk.injEq] at h
      obtain ⟨rfl, rfl, rfl, rfl⟩ := h
      exact export_bare A0 c0 l0 w hr0 hc0 hb (by omega)
  · simp only [if_true] at h
    by_cases hs : l0.length < 134
    · rw [if_pos hs] at h
      simp only [Option.some.injEq, Prod.mk.injEq] at h
      obtain ⟨rfl, rfl, rfl, rfl⟩ := h
      clear hr0
      go_enter Try.func40, Try.ntmps40
      go_wp2
      exact bodyPost_ret (v := .tuple #[.agg #[.int .u64 0, .int .u16 0], .int .i64 134, .int .i64 10]) (by simp [results, Try.results40, go_sem]) rfl ⟨rfl, below_alloc (Below.refl _ _) _⟩
    · rw [if_neg hs] at h
      exact export_long A0 c0 l0 r1 r2 r3 r4 w hr0 hc0 hb (by omega) h
end Go.Proofs.Ytilgfhiomcfmhaa.Hand
