/- Package wire's encoders: what each lays down, for every message whose data are shorter than 2^47 bytes. -/
import Derived.Test.YtilgfhiomcfmhaaOctc
namespace Go.Proofs.Ytilgfhiomcfmhaa.Hand
open Go.RowKit Go.Proofs.YtilgfhiomcfmhaaW.PrintWords Go.Proofs.YtilgfhiomcfmhaaW.PrintLast Go.Proofs.Ytilgfhiomcfmhaa.Octa
set_option linter.unusedVariables false
set_option linter.unusedSimpArgs false

def wire_EncodeGreeting.f (a0 : Int) : Option (List Int) :=
  if (0 ≤ a0 ∧ a0 ≤ 65535) then
    (some (be 5639144782019643715 8 ++ be 5280542401877725268 8 ++ be a0 2))
  else none

set_option maxHeartbeats 4000000 in
set_option maxRecDepth 100000 in
theorem wire_EncodeGreeting.calls (a0 : Int) (r : List Int) (w : World) (h : wire_EncodeGreeting.f a0 = some r) :
    Calls Try.prog 30 #[.agg #[.int .u16 a0]] w fun e w' => ∃ v0_ : Value, e = .returned (v0_) ∧ Kd.R (Kd.int .u8) 5 w' w.heap.size (fun _ => True) v0_ r ∧ Below w.heap.size w w' := by
  unfold wire_EncodeGreeting.f at h
  split at h
  case isFalse => cases h
  rename_i hb
  obtain ⟨b0, b1⟩ := hb
  have CE : Hid (∀ {g xs w'}, WS (w.alloc (.cells #[.int .u16 a0] 55)) g xs w' → w'.cell? ⟨w.heap.size, 0, none⟩ = some (.int .u16 a0) ∧ True) :=
    Lib.hid fun hw => ⟨hw.cell ((blk_cell (blk_new w _) 0).trans rfl), trivial⟩
  obtain rfl := Option.some.inj h
  go_enter Try.func30, Try.ntmps30
  go_wp2_with (first | (go_at_call 64; go_must (refine (NewWriter_ws _).mono ?_); rintro e w1 ⟨g, rfl, hw⟩; obtain ⟨q0, q1⟩ := CE.out hw) | (go_at_call 65; go_must (refine (U64_ws _ (by assumption) (by simp [be_length])).mono ?_); rintro e w1 ⟨rfl, hw⟩; obtain ⟨q0, q1⟩ := CE.out hw) | (go_at_call 66; go_must (refine (U32_ws _ (by assumption) (by omega) (by simp [be_length])).mono ?_); rintro e w1 ⟨rfl, hw⟩; obtain ⟨q0, q1⟩ := CE.out hw) | (go_at_call 70; go_must (refine (U16_ws _ (by assumption) (by omega) (by simp [be_length])).mono ?_); rintro e w1 ⟨rfl, hw⟩; obtain ⟨q0, q1⟩ := CE.out hw) | (go_at_call 74; go_must (refine (Zeros_ws 124 (by decide) (by assumption) (by simp [be_length])).mono ?_); rintro e w1 ⟨rfl, hw⟩; obtain ⟨q0, q1⟩ := CE.out hw) | (go_at_call 68; go_must (refine (Out_ws (by assumption) (by first | (simp [be_length]; done) | (simp [be_length]; omega))).mono ?_); rintro e w1 ⟨v, rfl, hR, hB⟩))
  go_ret
  exact ⟨_, rfl, Kd.R_lower hR (by simp), (below_alloc (Below.refl _ _) _).trans (hB.mono (by simp))⟩

def wire_EncodeFlags.f (a0 : Int) : Option (List Int) :=
  if (0 ≤ a0 ∧ a0 ≤ 4294967295) then
    (some (be a0 4))
  else none

set_option maxHeartbeats 4000000 in
set_option maxRecDepth 100000 in
theorem wire_EncodeFlags.calls (a0 : Int) (r : List Int) (w : World) (h : wire_EncodeFlags.f a0 = some r) :
    Calls Try.prog 31 #[.int .u32 a0] w fun e w' => ∃ v0_ : Value, e = .returned (v0_) ∧ Kd.R (Kd.int .u8) 5 w' w.heap.size (fun _ => True) v0_ r ∧ Below w.heap.size w w' := by
  unfold wire_EncodeFlags.f at h
  split at h
  case isFalse => cases h
  rename_i hb
  obtain ⟨b0, b1⟩ := hb

  obtain rfl := Option.some.inj h
  go_enter Try.func31, Try.ntmps31
  go_wp2_with (first | (go_at_call 64; go_must (refine (NewWriter_ws _).mono ?_); rintro e w1 ⟨g, rfl, hw⟩) | (go_at_call 65; go_must (refine (U64_ws _ (by assumption) (by simp [be_length])).mono ?_); rintro e w1 ⟨rfl, hw⟩) | (go_at_call 66; go_must (refine (U32_ws _ (by assumption) (by omega) (by simp [be_length])).mono ?_); rintro e w1 ⟨rfl, hw⟩) | (go_at_call 70; go_must (refine (U16_ws _ (by assumption) (by omega) (by simp [be_length])).mono ?_); rintro e w1 ⟨rfl, hw⟩) | (go_at_call 74; go_must (refine (Zeros_ws 124 (by decide) (by assumption) (by simp [be_length])).mono ?_); rintro e w1 ⟨rfl, hw⟩) | (go_at_call 68; go_must (refine (Out_ws (by assumption) (by first | (simp [be_length]; done) | (simp [be_length]; omega))).mono ?_); rintro e w1 ⟨v, rfl, hR, hB⟩))
  go_ret
  exact ⟨_, rfl, hR, hB⟩

def wire_EncodeOption.f (a0 : Int) (a1 : Int) (a2 : Bool) (l0 : List Int) : Option (List Int × Int) :=
  if (0 ≤ a0 ∧ a0 ≤ 4294967295) ∧ (0 ≤ a1 ∧ a1 ≤ 4294967295) ∧ l0.length ≤ 140737488355000 then
    (if a2 = true then some ([], 81) else if a1 = (l0.length : Int) then some (be 5280542401877725268 8 ++ be a0 4 ++ be a1 4 ++ l0, 0) else some ([], 81))
  else none

set_option maxHeartbeats 4000000 in
set_option maxRecDepth 100000 in
theorem wire_EncodeOption.calls (a0 : Int) (a1 : Int) (a2 : Bool) (A0 : Option Addr) (c0 : Nat) (l0 : List Int) (r1 : List Int) (r2 : Int) (w : World) (hr0 : Kd.C (Kd.int .u8) w A0 l0.length l0) (_hc0 : l0.length ≤ c0) (h : wire_EncodeOption.f a0 a1 a2 l0 = some (r1, r2)) :
    Calls Try.prog 20 #[.agg #[.int .u32 a0, .int .u32 a1, .bool a2, .slice A0 l0.length c0]] w fun e w' => ∃ v0_ : Value, e = .returned (.tuple #[v0_, .int .i64 r2]) ∧ Kd.R (Kd.int .u8) 5 w' w.heap.size (fun _ => True) v0_ r1 ∧ Below w.heap.size w w' := by
  unfold wire_EncodeOption.f at h
  split at h
  case isFalse => cases h
  rename_i hb
  obtain ⟨b0, b1, bl⟩ := hb
  have CE : Hid (∀ {g xs w'}, WS (w.alloc (.cells #[.int .u32 a0, .int .u32 a1, .bool a2, .slice A0 l0.length c0] 33)) g xs w' → w'.cell? ⟨w.heap.size, 0, none⟩ = some (.int .u32 a0) ∧ w'.cell? ⟨w.heap.size, 1, none⟩ = some (.int .u32 a1) ∧ w'.cell? ⟨w.heap.size, 2, none⟩ = some (.bool a2) ∧ w'.cell? ⟨w.heap.size, 3, none⟩ = some (.slice A0 l0.length c0) ∧ Kd.C (Kd.int .u8) w' A0 l0.length l0) :=
    Lib.hid fun hw => ⟨hw.cell ((blk_cell (blk_new w _) 0).trans rfl), hw.cell ((blk_cell (blk_new w _) 1).trans rfl), hw.cell ((blk_cell (blk_new w _) 2).trans rfl), hw.cell ((blk_cell (blk_new w _) 3).trans rfl), hw.C (Kd.C_below hr0 (below_alloc (Below.refl _ _) _))⟩
  clear hr0
  by_cases h2 : a2 = true
  · rw [if_pos h2] at h
    simp only [Option.some.injEq, Prod.mk.injEq] at h
    obtain ⟨rfl, rfl⟩ := h
    subst h2
    go_enter Try.func20, Try.ntmps20
    go_wp2
    go_ret2
    exact ⟨_, rfl, Kd.R_nil _ _ _ _ _, below_alloc (Below.refl _ _) _⟩
  · have h2' : a2 = false := by simpa using h2
    rw [if_neg h2] at h
    subst h2'
    by_cases h3 : a1 = (l0.length : Int)
    · rw [if_pos h3] at h
      simp only [Option.some.injEq, Prod.mk.injEq] at h
      obtain ⟨rfl, rfl⟩ := h
      subst h3
      go_enter Try.func20, Try.ntmps20
      go_wp2_with (first | (go_at_call 64; go_must (refine (NewWriter_ws _).mono ?_); rintro e w1 ⟨g, rfl, hw⟩; obtain ⟨q0, q1, q2, q3, q4⟩ := CE.out hw) | (go_at_call 65; go_must (refine (U64_ws _ (by assumption) (by simp [be_length])).mono ?_); rintro e w1 ⟨rfl, hw⟩; obtain ⟨q0, q1, q2, q3, q4⟩ := CE.out hw) | (go_at_call 66; go_must (refine (U32_ws _ (by assumption) (by omega) (by simp [be_length])).mono ?_); rintro e w1 ⟨rfl, hw⟩; obtain ⟨q0, q1, q2, q3, q4⟩ := CE.out hw) | (go_at_call 70; go_must (refine (U16_ws _ (by assumption) (by omega) (by simp [be_length])).mono ?_); rintro e w1 ⟨rfl, hw⟩; obtain ⟨q0, q1, q2, q3, q4⟩ := CE.out hw) | (go_at_call 67; go_must (refine (Raw_ws _ _ l0 (by assumption) (by assumption) (by simp [be_length]; omega)).mono ?_); rintro e w1 ⟨rfl, hw⟩; obtain ⟨q0, q1, q2, q3, q4⟩ := CE.out hw) | (go_at_call 74; go_must (refine (Zeros_ws 124 (by decide) (by assumption) (by simp [be_length])).mono ?_); rintro e w1 ⟨rfl, hw⟩; obtain ⟨q0, q1, q2, q3, q4⟩ := CE.out hw) | (go_at_call 68; go_must (refine (Out_ws (by assumption) (by first | (simp [be_length]; done) | (simp [be_length]; omega))).mono ?_); rintro e w1 ⟨v, rfl, hR, hB⟩))
      go_ret2
      exact ⟨_, rfl, Kd.R_lower hR (by simp), (below_alloc (Below.refl _ _) _).trans (hB.mono (by simp))⟩
    · rw [if_neg h3] at h
      simp only [Option.some.injEq, Prod.mk.injEq] at h
      obtain ⟨rfl, rfl⟩ := h
      have h4 : (a1 != (l0.length : Int)) = true := bne_iff_ne.mpr h3
      have h5 : (a1 == (l0.length : Int)) = false := beq_eq_false_iff_ne.mpr h3
      go_enter Try.func20, Try.ntmps20
      go_wp2
      go_ret2
      exact ⟨_, rfl, Kd.R_nil _ _ _ _ _, below_alloc (Below.refl _ _) _⟩

def wire_EncodeReply.f (a0 : Int) (a1 : Int) (l0 : List Int) : Option (List Int) :=
  if (0 ≤ a0 ∧ a0 ≤ 4294967295) ∧ (0 ≤ a1 ∧ a1 ≤ 4294967295) ∧ l0.length ≤ 140737488355000 then
    (some (be 1100100111001001 8 ++ be a0 4 ++ be a1 4 ++ be ((l0.length : Int) % 4294967296) 4 ++ l0))
  else none

set_option maxHeartbeats 4000000 in
set_option maxRecDepth 100000 in
theorem wire_EncodeReply.calls (a0 : Int) (a1 : Int) (A0 : Option Addr) (c0 : Nat) (l0 : List Int) (r : List Int) (w : World) (hr0 : Kd.C (Kd.int .u8) w A0 l0.length l0) (_hc0 : l0.length ≤ c0) (h : wire_EncodeReply.f a0 a1 l0 = some r) :
    Calls Try.prog 21 #[.agg #[.int .u32 a0, .int .u32 a1, .slice A0 l0.length c0]] w fun e w' => ∃ v0_ : Value, e = .returned (v0_) ∧ Kd.R (Kd.int .u8) 5 w' w.heap.size (fun _ => True) v0_ r ∧ Below w.heap.size w w' := by
  unfold wire_EncodeReply.f at h
  split at h
  case isFalse => cases h
  rename_i hb
  obtain ⟨b0, b1, bl⟩ := hb
  have CE : Hid (∀ {g xs w'}, WS (w.alloc (.cells #[.int .u32 a0, .int .u32 a1, .slice A0 l0.length c0] 35)) g xs w' → w'.cell? ⟨w.heap.size, 0, none⟩ = some (.int .u32 a0) ∧ w'.cell? ⟨w.heap.size, 1, none⟩ = some (.int .u32 a1) ∧ w'.cell? ⟨w.heap.size, 2, none⟩ = some (.slice A0 l0.length c0) ∧ Kd.C (Kd.int .u8) w' A0 l0.length l0) :=
    Lib.hid fun hw => ⟨hw.cell ((blk_cell (blk_new w _) 0).trans rfl), hw.cell ((blk_cell (blk_new w _) 1).trans rfl), hw.cell ((blk_cell (blk_new w _) 2).trans rfl), hw.C (Kd.C_below hr0 (below_alloc (Below.refl _ _) _))⟩
  clear hr0
  obtain rfl := Option.some.inj h
  go_enter Try.func21, Try.ntmps21
  go_wp2_with (first | (go_at_call 64; go_must (refine (NewWriter_ws _).mono ?_); rintro e w1 ⟨g, rfl, hw⟩; obtain ⟨q0, q1, q2, q3⟩ := CE.out hw) | (go_at_call 65; go_must (refine (U64_ws _ (by assumption) (by simp [be_length])).mono ?_); rintro e w1 ⟨rfl, hw⟩; obtain ⟨q0, q1, q2, q3⟩ := CE.out hw) | (go_at_call 66; go_must (refine (U32_ws _ (by assumption) (by omega) (by simp [be_length])).mono ?_); rintro e w1 ⟨rfl, hw⟩; obtain ⟨q0, q1, q2, q3⟩ := CE.out hw) | (go_at_call 70; go_must (refine (U16_ws _ (by assumption) (by omega) (by simp [be_length])).mono ?_); rintro e w1 ⟨rfl, hw⟩; obtain ⟨q0, q1, q2, q3⟩ := CE.out hw) | (go_at_call 67; go_must (refine (Raw_ws _ _ l0 (by assumption) (by assumption) (by simp [be_length]; omega)).mono ?_); rintro e w1 ⟨rfl, hw⟩; obtain ⟨q0, q1, q2, q3⟩ := CE.out hw) | (go_at_call 74; go_must (refine (Zeros_ws 124 (by decide) (by assumption) (by simp [be_length])).mono ?_); rintro e w1 ⟨rfl, hw⟩; obtain ⟨q0, q1, q2, q3⟩ := CE.out hw) | (go_at_call 68; go_must (refine (Out_ws (by assumption) (by first | (simp [be_length]; done) | (simp [be_length]; omega))).mono ?_); rintro e w1 ⟨v, rfl, hR, hB⟩))
  go_ret
  exact ⟨_, rfl, Kd.R_lower hR (by simp), (below_alloc (Below.refl _ _) _).trans (hB.mono (by simp))⟩

def wire_EncodeExport.f (a0 : Int) (a1 : Int) (x0 : Bool) : Option (List Int) :=
  if (0 ≤ a1 ∧ a1 ≤ 65535) then
    (if x0 = true then some (be a0 8 ++ be a1 2 ++ List.replicate 124 0) else some (be a0 8 ++ be a1 2))
  else none

set_option maxHeartbeats 4000000 in
set_option maxRecDepth 100000 in
theorem wire_EncodeExport.calls (a0 : Int) (a1 : Int) (x0 : Bool) (r : List Int) (w : World) (h : wire_EncodeExport.f a0 a1 x0 = some r) :
    Calls Try.prog 32 #[.agg #[.int .u64 a0, .int .u16 a1], .bool x0] w fun e w' => ∃ v0_ : Value, e = .returned (v0_) ∧ Kd.R (Kd.int .u8) 5 w' w.heap.size (fun _ => True) v0_ r ∧ Below w.heap.size w w' := by
  unfold wire_EncodeExport.f at h
  split at h
  case isFalse => cases h
  rename_i hb
  obtain ⟨b0, b1⟩ := hb
  have CE : Hid (∀ {g xs w'}, WS (w.alloc (.cells #[.int .u64 a0, .int .u16 a1] 57)) g xs w' → w'.cell? ⟨w.heap.size, 0, none⟩ = some (.int .u64 a0) ∧ w'.cell? ⟨w.heap.size, 1, none⟩ = some (.int .u16 a1)) :=
    Lib.hid fun hw => ⟨hw.cell ((blk_cell (blk_new w _) 0).trans rfl), hw.cell ((blk_cell (blk_new w _) 1).trans rfl)⟩
  cases x0
  · obtain rfl := Option.some.inj h
    go_enter Try.func32, Try.ntmps32
    go_wp2_with (first | (go_at_call 64; go_must (refine (NewWriter_ws _).mono ?_); rintro e w1 ⟨g, rfl, hw⟩; obtain ⟨q0, q1⟩ := CE.out hw) | (go_at_call 65; go_must (refine (U64_ws _ (by assumption) (by simp [be_length])).mono ?_); rintro e w1 ⟨rfl, hw⟩; obtain ⟨q0, q1⟩ := CE.out hw) | (go_at_call 66; go_must (refine (U32_ws _ (by assumption) (by omega) (by simp [be_length])).mono ?_); rintro e w1 ⟨rfl, hw⟩; obtain ⟨q0, q1⟩ := CE.out hw) | (go_at_call 70; go_must (refine (U16_ws _ (by assumption) (by omega) (by simp [be_length])).mono ?_); rintro e w1 ⟨rfl, hw⟩; obtain ⟨q0, q1⟩ := CE.out hw) | (go_at_call 74; go_must (refine (Zeros_ws 124 (by decide) (by assumption) (by simp [be_length])).mono ?_); rintro e w1 ⟨rfl, hw⟩; obtain ⟨q0, q1⟩ := CE.out hw) | (go_at_call 68; go_must (refine (Out_ws (by assumption) (by first | (simp [be_length]; done) | (simp [be_length]; omega))).mono ?_); rintro e w1 ⟨v, rfl, hR, hB⟩))
    go_ret
    exact ⟨_, rfl, Kd.R_lower hR (by simp), (below_alloc (Below.refl _ _) _).trans (hB.mono (by simp))⟩
  · obtain rfl := Option.some.inj h
    go_enter Try.func32, Try.ntmps32
    go_wp2_with (first | (go_at_call 64; go_must (refine (NewWriter_ws _).mono ?_); rintro e w1 ⟨g, rfl, hw⟩; obtain ⟨q0, q1⟩ := CE.out hw) | (go_at_call 65; go_must (refine (U64_ws _ (by assumption) (by simp [be_length])).mono ?_); rintro e w1 ⟨rfl, hw⟩; obtain ⟨q0, q1⟩ := CE.out hw) | (go_at_call 66; go_must (refine (U32_ws _ (by assumption) (by omega) (by simp [be_length])).mono ?_); rintro e w1 ⟨rfl, hw⟩; obtain ⟨q0, q1⟩ := CE.out hw) | (go_at_call 70; go_must (refine (U16_ws _ (by assumption) (by omega) (by simp [be_length])).mono ?_); rintro e w1 ⟨rfl, hw⟩; obtain ⟨q0, q1⟩ := CE.out hw) | (go_at_call 74; go_must (refine (Zeros_ws 124 (by decide) (by assumption) (by simp [be_length])).mono ?_); rintro e w1 ⟨rfl, hw⟩; obtain ⟨q0, q1⟩ := CE.out hw) | (go_at_call 68; go_must (refine (Out_ws (by assumption) (by first | (simp [be_length]; done) | (simp [be_length]; omega))).mono ?_); rintro e w1 ⟨v, rfl, hR, hB⟩))
    go_ret
    exact ⟨_, rfl, Kd.R_lower hR (by simp), (below_alloc (Below.refl _ _) _).trans (hB.mono (by simp))⟩

def wire_EncodeSimple.f (a0 : Int) (a1 : Int) : Option (List Int) :=
  if (0 ≤ a0 ∧ a0 ≤ 4294967295) then
    (some (be 1732535960 4 ++ be a0 4 ++ be a1 8))
  else none

set_option maxHeartbeats 4000000 in
set_option maxRecDepth 100000 in
theorem wire_EncodeSimple.calls (a0 : Int) (a1 : Int) (r : List Int) (w : World) (h : wire_EncodeSimple.f a0 a1 = some r) :
    Calls Try.prog 33 #[.agg #[.int .u32 a0, .int .u64 a1]] w fun e w' => ∃ v0_ : Value, e = .returned (v0_) ∧ Kd.R (Kd.int .u8) 5 w' w.heap.size (fun _ => True) v0_ r ∧ Below w.heap.size w w' := by
  unfold wire_EncodeSimple.f at h
  split at h
  case isFalse => cases h
  rename_i hb
  obtain ⟨b0, b1⟩ := hb
  have CE : Hid (∀ {g xs w'}, WS (w.alloc (.cells #[.int .u32 a0, .int .u64 a1] 59)) g xs w' → w'.cell? ⟨w.heap.size, 0, none⟩ = some (.int .u32 a0) ∧ w'.cell? ⟨w.heap.size, 1, none⟩ = some (.int .u64 a1)) :=
    Lib.hid fun hw => ⟨hw.cell ((blk_cell (blk_new w _) 0).trans rfl), hw.cell ((blk_cell (blk_new w _) 1).trans rfl)⟩
  obtain rfl := Option.some.inj h
  go_enter Try.func33, Try.ntmps33
  go_wp2_with (first | (go_at_call 64; go_must (refine (NewWriter_ws _).mono ?_); rintro e w1 ⟨g, rfl, hw⟩; obtain ⟨q0, q1⟩ := CE.out hw) | (go_at_call 65; go_must (refine (U64_ws _ (by assumption) (by simp [be_length])).mono ?_); rintro e w1 ⟨rfl, hw⟩; obtain ⟨q0, q1⟩ := CE.out hw) | (go_at_call 66; go_must (refine (U32_ws _ (by assumption) (by omega) (by simp [be_length])).mono ?_); rintro e w1 ⟨rfl, hw⟩; obtain ⟨q0, q1⟩ := CE.out hw) | (go_at_call 70; go_must (refine (U16_ws _ (by assumption) (by omega) (by simp [be_length])).mono ?_); rintro e w1 ⟨rfl, hw⟩; obtain ⟨q0, q1⟩ := CE.out hw) | (go_at_call 74; go_must (refine (Zeros_ws 124 (by decide) (by assumption) (by simp [be_length])).mono ?_); rintro e w1 ⟨rfl, hw⟩; obtain ⟨q0, q1⟩ := CE.out hw) | (go_at_call 68; go_must (refine (Out_ws (by assumption) (by first | (simp [be_length]; done) | (simp [be_length]; omega))).mono ?_); rintro e w1 ⟨v, rfl, hR, hB⟩))
  go_ret
  exact ⟨_, rfl, Kd.R_lower hR (by simp), (below_alloc (Below.refl _ _) _).trans (hB.mono (by simp))⟩

def wire_EncodeChunk.f (a0 : Int) (a1 : Int) (a2 : Int) (a3 : Int) (l0 : List Int) (x0 : Bool) : Option (List Int) :=
  if (0 ≤ a0 ∧ a0 ≤ 65535) ∧ (0 ≤ a1 ∧ a1 ≤ 65535) ∧ l0.length ≤ 140737488355000 then
    (if x0 = true then some (be 1854547852 4 ++ be a0 2 ++ be a1 2 ++ be a2 8 ++ be a3 8 ++ be (l0.length : Int) 8 ++ l0) else some (be 1720595439 4 ++ be a0 2 ++ be a1 2 ++ be a2 8 ++ be ((l0.length : Int) % 4294967296) 4 ++ l0))
  else none

set_option maxHeartbeats 4000000 in
set_option maxRecDepth 100000 in
theorem wire_EncodeChunk.calls (a0 : Int) (a1 : Int) (a2 : Int) (a3 : Int) (A0 : Option Addr) (c0 : Nat) (l0 : List Int) (x0 : Bool) (r : List Int) (w : World) (hr0 : Kd.C (Kd.int .u8) w A0 l0.length l0) (_hc0 : l0.length ≤ c0) (h : wire_EncodeChunk.f a0 a1 a2 a3 l0 x0 = some r) :
    Calls Try.prog 23 #[.agg #[.int .u16 a0, .int .u16 a1, .int .u64 a2, .int .u64 a3, .slice A0 l0.length c0], .bool x0] w fun e w' => ∃ v0_ : Value, e = .returned (v0_) ∧ Kd.R (Kd.int .u8) 5 w' w.heap.size (fun _ => True) v0_ r ∧ Below w.heap.size w w' := by
  unfold wire_EncodeChunk.f at h
  split at h
  case isFalse => cases h
  rename_i hb
  obtain ⟨b0, b1, bl⟩ := hb
  have CE : Hid (∀ {g xs w'}, WS (w.alloc (.cells #[.int .u16 a0, .int .u16 a1, .int .u64 a2, .int .u64 a3, .slice A0 l0.length c0] 41)) g xs w' → w'.cell? ⟨w.heap.size, 0, none⟩ = some (.int .u16 a0) ∧ w'.cell? ⟨w.heap.size, 1, none⟩ = some (.int .u16 a1) ∧ w'.cell? ⟨w.heap.size, 2, none⟩ = some (.int .u64 a2) ∧ w'.cell? ⟨w.heap.size, 3, none⟩ = some (.int .u64 a3) ∧ w'.cell? ⟨w.heap.size, 4, none⟩ = some (.slice A0 l0.length c0) ∧ Kd.C (Kd.int .u8) w' A0 l0.length l0) :=
    Lib.hid fun hw => ⟨hw.cell ((blk_cell (blk_new w _) 0).trans rfl), hw.cell ((blk_cell (blk_new w _) 1).trans rfl), hw.cell ((blk_cell (blk_new w _) 2).trans rfl), hw.cell ((blk_cell (blk_new w _) 3).trans rfl), hw.cell ((blk_cell (blk_new w _) 4).trans rfl), hw.C (Kd.C_below hr0 (below_alloc (Below.refl _ _) _))⟩
  clear hr0
  cases x0
  · obtain rfl := Option.some.inj h
    go_enter Try.func23, Try.ntmps23
    go_wp2_with (first | (go_at_call 64; go_must (refine (NewWriter_ws _).mono ?_); rintro e w1 ⟨g, rfl, hw⟩; obtain ⟨q0, q1, q2, q3, q4, q5⟩ := CE.out hw) | (go_at_call 65; go_must (refine (U64_ws _ (by assumption) (by simp [be_length])).mono ?_); rintro e w1 ⟨rfl, hw⟩; obtain ⟨q0, q1, q2, q3, q4, q5⟩ := CE.out hw) | (go_at_call 66; go_must (refine (U32_ws _ (by assumption) (by omega) (by simp [be_length])).mono ?_); rintro e w1 ⟨rfl, hw⟩; obtain ⟨q0, q1, q2, q3, q4, q5⟩ := CE.out hw) | (go_at_call 70; go_must (refine (U16_ws _ (by assumption) (by omega) (by simp [be_length])).mono ?_); rintro e w1 ⟨rfl, hw⟩; obtain ⟨q0, q1, q2, q3, q4, q5⟩ := CE.out hw) | (go_at_call 67; go_must (refine (Raw_ws _ _ l0 (by assumption) (by assumption) (by simp [be_length]; omega)).mono ?_); rintro e w1 ⟨rfl, hw⟩; obtain ⟨q0, q1, q2, q3, q4, q5⟩ := CE.out hw) | (go_at_call 74; go_must (refine (Zeros_ws 124 (by decide) (by assumption) (by simp [be_length])).mono ?_); rintro e w1 ⟨rfl, hw⟩; obtain ⟨q0, q1, q2, q3, q4, q5⟩ := CE.out hw) | (go_at_call 68; go_must (refine (Out_ws (by assumption) (by first | (simp [be_length]; done) | (simp [be_length]; omega))).mono ?_); rintro e w1 ⟨v, rfl, hR, hB⟩))
    go_ret
    exact ⟨_, rfl, Kd.R_lower hR (by simp), (below_alloc (Below.refl _ _) _).trans (hB.mono (by simp))⟩
  · obtain rfl := Option.some.inj h
    go_enter Try.func23, Try.ntmps23
    go_wp2_with (first | (go_at_call 64; go_must (refine (NewWriter_ws _).mono ?_); rintro e w1 ⟨g, rfl, hw⟩; obtain ⟨q0, q1, q2, q3, q4, q5⟩ := CE.out hw) | (go_at_call 65; go_must (refine (U64_ws _ (by assumption) (by simp [be_length])).mono ?_); rintro e w1 ⟨rfl, hw⟩; obtain ⟨q0, q1, q2, q3, q4, q5⟩ := CE.out hw) | (go_at_call 66; go_must (refine (U32_ws _ (by assumption) (by omega) (by simp [be_length])).mono ?_); rintro e w1 ⟨rfl, hw⟩; obtain ⟨q0, q1, q2, q3, q4, q5⟩ := CE.out hw) | (go_at_call 70; go_must (refine (U16_ws _ (by assumption) (by omega) (by simp [be_length])).mono ?_); rintro e w1 ⟨rfl, hw⟩; obtain ⟨q0, q1, q2, q3, q4, q5⟩ := CE.out hw) | (go_at_call 67; go_must (refine (Raw_ws _ _ l0 (by assumption) (by assumption) (by simp [be_length]; omega)).mono ?_); rintro e w1 ⟨rfl, hw⟩; obtain ⟨q0, q1, q2, q3, q4, q5⟩ := CE.out hw) | (go_at_call 74; go_must (refine (Zeros_ws 124 (by decide) (by assumption) (by simp [be_length])).mono ?_); rintro e w1 ⟨rfl, hw⟩; obtain ⟨q0, q1, q2, q3, q4, q5⟩ := CE.out hw) | (go_at_call 68; go_must (refine (Out_ws (by assumption) (by first | (simp [be_length]; done) | (simp [be_length]; omega))).mono ?_); rintro e w1 ⟨v, rfl, hR, hB⟩))
    go_ret
    exact ⟨_, rfl, Kd.R_lower hR (by simp), (below_alloc (Below.refl _ _) _).trans (hB.mono (by simp))⟩

/-- Has a request a payload? As the walk spells it. -/
def paidB (a0 a1 : Int) (x0 : Bool) : Bool := if x0 = true then ((Go.bits .and .u16 a0 32) != 0) else (a1 == 1)
theorem paid_calls (v5 : Value) (a0 a1 a2 a3 a4 : Int) (x0 : Bool) (w : World) :
    Calls Try.prog 69 #[.agg #[.int .u16 a0, .int .u16 a1, .int .u64 a2, .int .u64 a3, .int .u64 a4, v5], .bool x0] w fun e w' => e = .returned (.bool (paidB a0 a1 x0)) ∧ Below w.heap.size w w' := by
  cases x0
  all_goals
    go_enter Try.func69, Try.ntmps69
    go_wp2
    go_ret
    exact ⟨rfl, below_alloc (Below.refl _ _) _⟩

def wire_EncodeRequest.f (a0 a1 a2 a3 a4 : Int) (l0 : List Int) (x0 : Bool) : Option (List Int × Int) :=
  if (0 ≤ a0 ∧ a0 ≤ 65535) ∧ (0 ≤ a1 ∧ a1 ≤ 65535) ∧ (0 ≤ a4 ∧ a4 ≤ 18446744073709551615) ∧ l0.length ≤ 140737488355000 then
    (if (l0.length : Int) = (if paidB a0 a1 x0 = true then a4 else 0) then
      (if x0 = false ∧ a4 > 4294967295 then some ([], 81)
       else some (be (if x0 = true then 568597617 else 627086611) 4 ++ be a0 2 ++ be a1 2 ++ be a2 8 ++ be a3 8 ++ be a4 (if x0 = true then 8 else 4) ++ l0, 0))
     else some ([], 81))
  else none

set_option maxHeartbeats 8000000 in
set_option maxRecDepth 100000 in
theorem request_go (pb : Bool) (a0 a1 a2 a3 a4 : Int) (A0 : Option Addr) (c0 : Nat) (l0 : List Int) (x0 : Bool) (r1 : List Int) (r2 : Int) (w : World) (hr0 : Kd.C (Kd.int .u8) w A0 l0.length l0)
    (b0 : 0 ≤ a0 ∧ a0 ≤ 65535) (b1 : 0 ≤ a1 ∧ a1 ≤ 65535) (b4 : 0 ≤ a4 ∧ a4 ≤ 18446744073709551615) (bl : l0.length ≤ 140737488355000)
    (PC : Hid (∀ (v5 : Value) (w : World), Calls Try.prog 69 #[.agg #[.int .u16 a0, .int .u16 a1, .int .u64 a2, .int .u64 a3, .int .u64 a4, v5], .bool x0] w fun e w' => e = .returned (.bool pb) ∧ Below w.heap.size w w'))
    (h : (if (l0.length : Int) = (if pb = true then a4 else 0) then
      (if x0 = false ∧ a4 > 4294967295 then some ([], 81)
       else some (be (if x0 = true then 568597617 else 627086611) 4 ++ be a0 2 ++ be a1 2 ++ be a2 8 ++ be a3 8 ++ be a4 (if x0 = true then 8 else 4) ++ l0, 0))
     else some ([], 81)) = some (r1, r2)) :
    Calls Try.prog 22 #[.agg #[.int .u16 a0, .int .u16 a1, .int .u64 a2, .int .u64 a3, .int .u64 a4, .slice A0 l0.length c0], .bool x0] w fun e w' => ∃ v0_ : Value, e = .returned (.tuple #[v0_, .int .i64 r2]) ∧ Kd.R (Kd.int .u8) 5 w' w.heap.size (fun _ => True) v0_ r1 ∧ Below w.heap.size w w' := by
  have CB : Hid (∀ {w0}, Below (w.alloc (.cells #[.int .u16 a0, .int .u16 a1, .int .u64 a2, .int .u64 a3, .int .u64 a4, .slice A0 l0.length c0] 39)).heap.size (w.alloc (.cells #[.int .u16 a0, .int .u16 a1, .int .u64 a2, .int .u64 a3, .int .u64 a4, .slice A0 l0.length c0] 39)) w0 → w0.cell? ⟨w.heap.size, 0, none⟩ = some (.int .u16 a0) ∧ w0.cell? ⟨w.heap.size, 1, none⟩ = some (.int .u16 a1) ∧ w0.cell? ⟨w.heap.size, 2, none⟩ = some (.int .u64 a2) ∧ w0.cell? ⟨w.heap.size, 3, none⟩ = some (.int .u64 a3) ∧ w0.cell? ⟨w.heap.size, 4, none⟩ = some (.int .u64 a4) ∧ w0.cell? ⟨w.heap.size, 5, none⟩ = some (.slice A0 l0.length c0) ∧ w0.cell? ⟨w.heap.size, 5, none⟩ = some (.slice A0 l0.length c0) ∧ Kd.C (Kd.int .u8) w0 A0 l0.length l0) := Lib.hid fun hb => ⟨pw_cell_below hb ((blk_cell (blk_new w _) 0).trans rfl), pw_cell_below hb ((blk_cell (blk_new w _) 1).trans rfl), pw_cell_below hb ((blk_cell (blk_new w _) 2).trans rfl), pw_cell_below hb ((blk_cell (blk_new w _) 3).trans rfl), pw_cell_below hb ((blk_cell (blk_new w _) 4).trans rfl), pw_cell_below hb ((blk_cell (blk_new w _) 5).trans rfl), pw_cell_below hb ((blk_cell (blk_new w _) 5).trans rfl), Kd.C_below (Kd.C_below hr0 (below_alloc (Below.refl _ _) _)) hb⟩
  have CE : Hid (∀ {w0 g xs w'}, Below (w.alloc (.cells #[.int .u16 a0, .int .u16 a1, .int .u64 a2, .int .u64 a3, .int .u64 a4, .slice A0 l0.length c0] 39)).heap.size (w.alloc (.cells #[.int .u16 a0, .int .u16 a1, .int .u64 a2, .int .u64 a3, .int .u64 a4, .slice A0 l0.length c0] 39)) w0 → WS w0 g xs w' → w'.cell? ⟨w.heap.size, 0, none⟩ = some (.int .u16 a0) ∧ w'.cell? ⟨w.heap.size, 1, none⟩ = some (.int .u16 a1) ∧ w'.cell? ⟨w.heap.size, 2, none⟩ = some (.int .u64 a2) ∧ w'.cell? ⟨w.heap.size, 3, none⟩ = some (.int .u64 a3) ∧ w'.cell? ⟨w.heap.size, 4, none⟩ = some (.int .u64 a4) ∧ w'.cell? ⟨w.heap.size, 5, none⟩ = some (.slice A0 l0.length c0) ∧ w'.cell? ⟨w.heap.size, 5, none⟩ = some (.slice A0 l0.length c0) ∧ Kd.C (Kd.int .u8) w' A0 l0.length l0) := Lib.hid fun hb hw => ⟨hw.cell (pw_cell_below hb ((blk_cell (blk_new w _) 0).trans rfl)), hw.cell (pw_cell_below hb ((blk_cell (blk_new w _) 1).trans rfl)), hw.cell (pw_cell_below hb ((blk_cell (blk_new w _) 2).trans rfl)), hw.cell (pw_cell_below hb ((blk_cell (blk_new w _) 3).trans rfl)), hw.cell (pw_cell_below hb ((blk_cell (blk_new w _) 4).trans rfl)), hw.cell (pw_cell_below hb ((blk_cell (blk_new w _) 5).trans rfl)), hw.cell (pw_cell_below hb ((blk_cell (blk_new w _) 5).trans rfl)), hw.C (Kd.C_below (Kd.C_below hr0 (below_alloc (Below.refl _ _) _)) hb)⟩
  clear hr0





  cases pb <;> cases x0 <;> simp only [Bool.false_eq_true, if_true, if_false, true_and, false_and, reduceCtorEq] at h
  · by_cases hA : (l0.length : Int) = 0
    · rw [if_pos hA] at h
      have hA1 : ((l0.length : Int) != 0) = false := bne_eq_false_iff_eq.mpr hA
      have hA2 : ((l0.length : Int) == 0) = true := beq_iff_eq.mpr hA
      have HA := Lib.hid hA
      clear hA
      by_cases hB : a4 > 4294967295
      · rw [if_pos hB] at h
        simp only [Option.some.injEq, Prod.mk.injEq] at h
        obtain ⟨rfl, rfl⟩ := h
        go_enter Try.func22, Try.ntmps22
        go_wp2_with (first | (go_at_call 69; go_must (refine (PC.out _ _).mono ?_); rintro e w1 ⟨rfl, hpb⟩; obtain ⟨q0, q1, q2, q3, q4, q5, q6, q7⟩ := CB.out hpb) | (go_at_call 64; go_must (refine (NewWriter_ws _).mono ?_); rintro e w1 ⟨g, rfl, hw⟩; obtain ⟨q0, q1, q2, q3, q4, q5, q6, q7⟩ := CE.out (by assumption) hw) | (go_at_call 65; go_must (refine (U64_ws _ (by assumption) (by simp [be_length])).mono ?_); rintro e w1 ⟨rfl, hw⟩; obtain ⟨q0, q1, q2, q3, q4, q5, q6, q7⟩ := CE.out (by assumption) hw) | (go_at_call 66; go_must (refine (U32_ws _ (by assumption) (by omega) (by simp [be_length])).mono ?_); rintro e w1 ⟨rfl, hw⟩; obtain ⟨q0, q1, q2, q3, q4, q5, q6, q7⟩ := CE.out (by assumption) hw) | (go_at_call 70; go_must (refine (U16_ws _ (by assumption) (by omega) (by simp [be_length])).mono ?_); rintro e w1 ⟨rfl, hw⟩; obtain ⟨q0, q1, q2, q3, q4, q5, q6, q7⟩ := CE.out (by assumption) hw) | (go_at_call 67; go_must (refine (Raw_ws _ _ l0 (by assumption) (by assumption) (by simp [be_length]; omega)).mono ?_); rintro e w1 ⟨rfl, hw⟩; obtain ⟨q0, q1, q2, q3, q4, q5, q6, q7⟩ := CE.out (by assumption) hw) | (go_at_call 74; go_must (refine (Zeros_ws 124 (by decide) (by assumption) (by simp [be_length])).mono ?_); rintro e w1 ⟨rfl, hw⟩; obtain ⟨q0, q1, q2, q3, q4, q5, q6, q7⟩ := CE.out (by assumption) hw) | (go_at_call 68; go_must (refine (Out_ws (by assumption) (by first | (simp [be_length]; done) | (simp [be_length]; omega))).mono ?_); rintro e w1 ⟨v, rfl, hR, hB⟩))
        go_ret2
        exact ⟨_, rfl, Kd.R_nil _ _ _ _ _, (below_alloc (Below.refl _ _) _).trans (hpb.mono (by simp))⟩
      · rw [if_neg hB] at h
        simp only [Option.some.injEq, Prod.mk.injEq] at h
        obtain ⟨rfl, rfl⟩ := h
        go_enter Try.func22, Try.ntmps22
        go_wp2_with (first | (go_at_call 69; go_must (refine (PC.out _ _).mono ?_); rintro e w1 ⟨rfl, hpb⟩; obtain ⟨q0, q1, q2, q3, q4, q5, q6, q7⟩ := CB.out hpb) | (go_at_call 64; go_must (refine (NewWriter_ws _).mono ?_); rintro e w1 ⟨g, rfl, hw⟩; obtain ⟨q0, q1, q2, q3, q4, q5, q6, q7⟩ := CE.out (by assumption) hw) | (go_at_call 65; go_must (refine (U64_ws _ (by assumption) (by simp [be_length])).mono ?_); rintro e w1 ⟨rfl, hw⟩; obtain ⟨q0, q1, q2, q3, q4, q5, q6, q7⟩ := CE.out (by assumption) hw) | (go_at_call 66; go_must (refine (U32_ws _ (by assumption) (by omega) (by simp [be_length])).mono ?_); rintro e w1 ⟨rfl, hw⟩; obtain ⟨q0, q1, q2, q3, q4, q5, q6, q7⟩ := CE.out (by assumption) hw) | (go_at_call 70; go_must (refine (U16_ws _ (by assumption) (by omega) (by simp [be_length])).mono ?_); rintro e w1 ⟨rfl, hw⟩; obtain ⟨q0, q1, q2, q3, q4, q5, q6, q7⟩ := CE.out (by assumption) hw) | (go_at_call 67; go_must (refine (Raw_ws _ _ l0 (by assumption) (by assumption) (by simp [be_length]; omega)).mono ?_); rintro e w1 ⟨rfl, hw⟩; obtain ⟨q0, q1, q2, q3, q4, q5, q6, q7⟩ := CE.out (by assumption) hw) | (go_at_call 74; go_must (refine (Zeros_ws 124 (by decide) (by assumption) (by simp [be_length])).mono ?_); rintro e w1 ⟨rfl, hw⟩; obtain ⟨q0, q1, q2, q3, q4, q5, q6, q7⟩ := CE.out (by assumption) hw) | (go_at_call 68; go_must (refine (Out_ws (by assumption) (by first | (simp [be_length]; done) | (simp [be_length]; omega))).mono ?_); rintro e w1 ⟨v, rfl, hR, hB⟩))
        go_ret2
        exact ⟨_, rfl, Kd.R_lower hR (by have := hpb.size; simp at this; omega), (below_alloc (Below.refl _ _) _).trans ((hpb.mono (by simp)).trans (hB.mono (by have := hpb.size; simp at this; omega)))⟩
    · rw [if_neg hA] at h
      have hA1 : ((l0.length : Int) != 0) = true := bne_iff_ne.mpr hA
      have hA2 : ((l0.length : Int) == 0) = false := beq_eq_false_iff_ne.mpr hA
      simp only [Option.some.injEq, Prod.mk.injEq] at h
      obtain ⟨rfl, rfl⟩ := h
      go_enter Try.func22, Try.ntmps22
      go_wp2_with (first | (go_at_call 69; go_must (refine (PC.out _ _).mono ?_); rintro e w1 ⟨rfl, hpb⟩; obtain ⟨q0, q1, q2, q3, q4, q5, q6, q7⟩ := CB.out hpb) | (go_at_call 64; go_must (refine (NewWriter_ws _).mono ?_); rintro e w1 ⟨g, rfl, hw⟩; obtain ⟨q0, q1, q2, q3, q4, q5, q6, q7⟩ := CE.out (by assumption) hw) | (go_at_call 65; go_must (refine (U64_ws _ (by assumption) (by simp [be_length])).mono ?_); rintro e w1 ⟨rfl, hw⟩; obtain ⟨q0, q1, q2, q3, q4, q5, q6, q7⟩ := CE.out (by assumption) hw) | (go_at_call 66; go_must (refine (U32_ws _ (by assumption) (by omega) (by simp [be_length])).mono ?_); rintro e w1 ⟨rfl, hw⟩; obtain ⟨q0, q1, q2, q3, q4, q5, q6, q7⟩ := CE.out (by assumption) hw) | (go_at_call 70; go_must (refine (U16_ws _ (by assumption) (by omega) (by simp [be_length])).mono ?_); rintro e w1 ⟨rfl, hw⟩; obtain ⟨q0, q1, q2, q3, q4, q5, q6, q7⟩ := CE.out (by assumption) hw) | (go_at_call 67; go_must (refine (Raw_ws _ _ l0 (by assumption) (by assumption) (by simp [be_length]; omega)).mono ?_); rintro e w1 ⟨rfl, hw⟩; obtain ⟨q0, q1, q2, q3, q4, q5, q6, q7⟩ := CE.out (by assumption) hw) | (go_at_call 74; go_must (refine (Zeros_ws 124 (by decide) (by assumption) (by simp [be_length])).mono ?_); rintro e w1 ⟨rfl, hw⟩; obtain ⟨q0, q1, q2, q3, q4, q5, q6, q7⟩ := CE.out (by assumption) hw) | (go_at_call 68; go_must (refine (Out_ws (by assumption) (by first | (simp [be_length]; done) | (simp [be_length]; omega))).mono ?_); rintro e w1 ⟨v, rfl, hR, hB⟩))
      go_ret2
      exact ⟨_, rfl, Kd.R_nil _ _ _ _ _, (below_alloc (Below.refl _ _) _).trans (hpb.mono (by simp))⟩
  · by_cases hA : (l0.length : Int) = 0
    · rw [if_pos hA] at h
      have hA1 : ((l0.length : Int) != 0) = false := bne_eq_false_iff_eq.mpr hA
      have hA2 : ((l0.length : Int) == 0) = true := beq_iff_eq.mpr hA
      have HA := Lib.hid hA
      clear hA
      simp only [Option.some.injEq, Prod.mk.injEq] at h
      obtain ⟨rfl, rfl⟩ := h
      go_enter Try.func22, Try.ntmps22
      go_wp2_with (first | (go_at_call 69; go_must (refine (PC.out _ _).mono ?_); rintro e w1 ⟨rfl, hpb⟩; obtain ⟨q0, q1, q2, q3, q4, q5, q6, q7⟩ := CB.out hpb) | (go_at_call 64; go_must (refine (NewWriter_ws _).mono ?_); rintro e w1 ⟨g, rfl, hw⟩; obtain ⟨q0, q1, q2, q3, q4, q5, q6, q7⟩ := CE.out (by assumption) hw) | (go_at_call 65; go_must (refine (U64_ws _ (by assumption) (by simp [be_length])).mono ?_); rintro e w1 ⟨rfl, hw⟩; obtain ⟨q0, q1, q2, q3, q4, q5, q6, q7⟩ := CE.out (by assumption) hw) | (go_at_call 66; go_must (refine (U32_ws _ (by assumption) (by omega) (by simp [be_length])).mono ?_); rintro e w1 ⟨rfl, hw⟩; obtain ⟨q0, q1, q2, q3, q4, q5, q6, q7⟩ := CE.out (by assumption) hw) | (go_at_call 70; go_must (refine (U16_ws _ (by assumption) (by omega) (by simp [be_length])).mono ?_); rintro e w1 ⟨rfl, hw⟩; obtain ⟨q0, q1, q2, q3, q4, q5, q6, q7⟩ := CE.out (by assumption) hw) | (go_at_call 67; go_must (refine (Raw_ws _ _ l0 (by assumption) (by assumption) (by simp [be_length]; omega)).mono ?_); rintro e w1 ⟨rfl, hw⟩; obtain ⟨q0, q1, q2, q3, q4, q5, q6, q7⟩ := CE.out (by assumption) hw) | (go_at_call 74; go_must (refine (Zeros_ws 124 (by decide) (by assumption) (by simp [be_length])).mono ?_); rintro e w1 ⟨rfl, hw⟩; obtain ⟨q0, q1, q2, q3, q4, q5, q6, q7⟩ := CE.out (by assumption) hw) | (go_at_call 68; go_must (refine (Out_ws (by assumption) (by first | (simp [be_length]; done) | (simp [be_length]; omega))).mono ?_); rintro e w1 ⟨v, rfl, hR, hB⟩))
      go_ret2
      exact ⟨_, rfl, Kd.R_lower hR (by have := hpb.size; simp at this; omega), (below_alloc (Below.refl _ _) _).trans ((hpb.mono (by simp)).trans (hB.mono (by have := hpb.size; simp at this; omega)))⟩
    · rw [if_neg hA] at h
      have hA1 : ((l0.length : Int) != 0) = true := bne_iff_ne.mpr hA
      have hA2 : ((l0.length : Int) == 0) = false := beq_eq_false_iff_ne.mpr hA
      simp only [Option.some.injEq, Prod.mk.injEq] at h
      obtain ⟨rfl, rfl⟩ := h
      go_enter Try.func22, Try.ntmps22
      go_wp2_with (first | (go_at_call 69; go_must (refine (PC.out _ _).mono ?_); rintro e w1 ⟨rfl, hpb⟩; obtain ⟨q0, q1, q2, q3, q4, q5, q6, q7⟩ := CB.out hpb) | (go_at_call 64; go_must (refine (NewWriter_ws _).mono ?_); rintro e w1 ⟨g, rfl, hw⟩; obtain ⟨q0, q1, q2, q3, q4, q5, q6, q7⟩ := CE.out (by assumption) hw) | (go_at_call 65; go_must (refine (U64_ws _ (by assumption) (by simp [be_length])).mono ?_); rintro e w1 ⟨rfl, hw⟩; obtain ⟨q0, q1, q2, q3, q4, q5, q6, q7⟩ := CE.out (by assumption) hw) | (go_at_call 66; go_must (refine (U32_ws _ (by assumption) (by omega) (by simp [be_length])).mono ?_); rintro e w1 ⟨rfl, hw⟩; obtain ⟨q0, q1, q2, q3, q4, q5, q6, q7⟩ := CE.out (by assumption) hw) | (go_at_call 70; go_must (refine (U16_ws _ (by assumption) (by omega) (by simp [be_length])).mono ?_); rintro e w1 ⟨rfl, hw⟩; obtain ⟨q0, q1, q2, q3, q4, q5, q6, q7⟩ := CE.out (by assumption) hw) | (go_at_call 67; go_must (refine (Raw_ws _ _ l0 (by assumption) (by assumption) (by simp [be_length]; omega)).mono ?_); rintro e w1 ⟨rfl, hw⟩; obtain ⟨q0, q1, q2, q3, q4, q5, q6, q7⟩ := CE.out (by assumption) hw) | (go_at_call 74; go_must (refine (Zeros_ws 124 (by decide) (by assumption) (by simp [be_length])).mono ?_); rintro e w1 ⟨rfl, hw⟩; obtain ⟨q0, q1, q2, q3, q4, q5, q6, q7⟩ := CE.out (by assumption) hw) | (go_at_call 68; go_must (refine (Out_ws (by assumption) (by first | (simp [be_length]; done) | (simp [be_length]; omega))).mono ?_); rintro e w1 ⟨v, rfl, hR, hB⟩))
      go_ret2
      exact ⟨_, rfl, Kd.R_nil _ _ _ _ _, (below_alloc (Below.refl _ _) _).trans (hpb.mono (by simp))⟩
  · by_cases hA : (l0.length : Int) = a4
    · rw [if_pos hA] at h
      have hA1 : ((l0.length : Int) != a4) = false := bne_eq_false_iff_eq.mpr hA
      have hA2 : ((l0.length : Int) == a4) = true := beq_iff_eq.mpr hA
      have HA := Lib.hid hA
      clear hA
      by_cases hB : a4 > 4294967295
      · rw [if_pos hB] at h
        simp only [Option.some.injEq, Prod.mk.injEq] at h
        obtain ⟨rfl, rfl⟩ := h
        go_enter Try.func22, Try.ntmps22
        go_wp2_with (first | (go_at_call 69; go_must (refine (PC.out _ _).mono ?_); rintro e w1 ⟨rfl, hpb⟩; obtain ⟨q0, q1, q2, q3, q4, q5, q6, q7⟩ := CB.out hpb) | (go_at_call 64; go_must (refine (NewWriter_ws _).mono ?_); rintro e w1 ⟨g, rfl, hw⟩; obtain ⟨q0, q1, q2, q3, q4, q5, q6, q7⟩ := CE.out (by assumption) hw) | (go_at_call 65; go_must (refine (U64_ws _ (by assumption) (by simp [be_length])).mono ?_); rintro e w1 ⟨rfl, hw⟩; obtain ⟨q0, q1, q2, q3, q4, q5, q6, q7⟩ := CE.out (by assumption) hw) | (go_at_call 66; go_must (refine (U32_ws _ (by assumption) (by omega) (by simp [be_length])).mono ?_); rintro e w1 ⟨rfl, hw⟩; obtain ⟨q0, q1, q2, q3, q4, q5, q6, q7⟩ := CE.out (by assumption) hw) | (go_at_call 70; go_must (refine (U16_ws _ (by assumption) (by omega) (by simp [be_length])).mono ?_); rintro e w1 ⟨rfl, hw⟩; obtain ⟨q0, q1, q2, q3, q4, q5, q6, q7⟩ := CE.out (by assumption) hw) | (go_at_call 67; go_must (refine (Raw_ws _ _ l0 (by assumption) (by assumption) (by simp [be_length]; omega)).mono ?_); rintro e w1 ⟨rfl, hw⟩; obtain ⟨q0, q1, q2, q3, q4, q5, q6, q7⟩ := CE.out (by assumption) hw) | (go_at_call 74; go_must (refine (Zeros_ws 124 (by decide) (by assumption) (by simp [be_length])).mono ?_); rintro e w1 ⟨rfl, hw⟩; obtain ⟨q0, q1, q2, q3, q4, q5, q6, q7⟩ := CE.out (by assumption) hw) | (go_at_call 68; go_must (refine (Out_ws (by assumption) (by first | (simp [be_length]; done) | (simp [be_length]; omega))).mono ?_); rintro e w1 ⟨v, rfl, hR, hB⟩))
        go_ret2
        exact ⟨_, rfl, Kd.R_nil _ _ _ _ _, (below_alloc (Below.refl _ _) _).trans (hpb.mono (by simp))⟩
      · rw [if_neg hB] at h
        simp only [Option.some.injEq, Prod.mk.injEq] at h
        obtain ⟨rfl, rfl⟩ := h
        go_enter Try.func22, Try.ntmps22
        go_wp2_with (first | (go_at_call 69; go_must (refine (PC.out _ _).mono ?_); rintro e w1 ⟨rfl, hpb⟩; obtain ⟨q0, q1, q2, q3, q4, q5, q6, q7⟩ := CB.out hpb) | (go_at_call 64; go_must (refine (NewWriter_ws _).mono ?_); rintro e w1 ⟨g, rfl, hw⟩; obtain ⟨q0, q1, q2, q3, q4, q5, q6, q7⟩ := CE.out (by assumption) hw) | (go_at_call 65; go_must (refine (U64_ws _ (by assumption) (by simp [be_length])).mono ?_); rintro e w1 ⟨rfl, hw⟩; obtain ⟨q0, q1, q2, q3, q4, q5, q6, q7⟩ := CE.out (by assumption) hw) | (go_at_call 66; go_must (refine (U32_ws _ (by assumption) (by omega) (by simp [be_length])).mono ?_); rintro e w1 ⟨rfl, hw⟩; obtain ⟨q0, q1, q2, q3, q4, q5, q6, q7⟩ := CE.out (by assumption) hw) | (go_at_call 70; go_must (refine (U16_ws _ (by assumption) (by omega) (by simp [be_length])).mono ?_); rintro e w1 ⟨rfl, hw⟩; obtain ⟨q0, q1, q2, q3, q4, q5, q6, q7⟩ := CE.out (by assumption) hw) | (go_at_call 67; go_must (refine (Raw_ws _ _ l0 (by assumption) (by assumption) (by simp [be_length]; omega)).mono ?_); rintro e w1 ⟨rfl, hw⟩; obtain ⟨q0, q1, q2, q3, q4, q5, q6, q7⟩ := CE.out (by assumption) hw) | (go_at_call 74; go_must (refine (Zeros_ws 124 (by decide) (by assumption) (by simp [be_length])).mono ?_); rintro e w1 ⟨rfl, hw⟩; obtain ⟨q0, q1, q2, q3, q4, q5, q6, q7⟩ := CE.out (by assumption) hw) | (go_at_call 68; go_must (refine (Out_ws (by assumption) (by first | (simp [be_length]; done) | (simp [be_length]; omega))).mono ?_); rintro e w1 ⟨v, rfl, hR, hB⟩))
        go_ret2
        exact ⟨_, rfl, Kd.R_lower hR (by have := hpb.size; simp at this; omega), (below_alloc (Below.refl _ _) _).trans ((hpb.mono (by simp)).trans (hB.mono (by have := hpb.size; simp at this; omega)))⟩
    · rw [if_neg hA] at h
      have hA1 : ((l0.length : Int) != a4) = true := bne_iff_ne.mpr hA
      have hA2 : ((l0.length : Int) == a4) = false := beq_eq_false_iff_ne.mpr hA
      simp only [Option.some.injEq, Prod.mk.injEq] at h
      obtain ⟨rfl, rfl⟩ := h
      go_enter Try.func22, Try.ntmps22
      go_wp2_with (first | (go_at_call 69; go_must (refine (PC.out _ _).mono ?_); rintro e w1 ⟨rfl, hpb⟩; obtain ⟨q0, q1, q2, q3, q4, q5, q6, q7⟩ := CB.out hpb) | (go_at_call 64; go_must (refine (NewWriter_ws _).mono ?_); rintro e w1 ⟨g, rfl, hw⟩; obtain ⟨q0, q1, q2, q3, q4, q5, q6, q7⟩ := CE.out (by assumption) hw) | (go_at_call 65; go_must (refine (U64_ws _ (by assumption) (by simp [be_length])).mono ?_); rintro e w1 ⟨rfl, hw⟩; obtain ⟨q0, q1, q2, q3, q4, q5, q6, q7⟩ := CE.out (by assumption) hw) | (go_at_call 66; go_must (refine (U32_ws _ (by assumption) (by omega) (by simp [be_length])).mono ?_); rintro e w1 ⟨rfl, hw⟩; obtain ⟨q0, q1, q2, q3, q4, q5, q6, q7⟩ := CE.out (by assumption) hw) | (go_at_call 70; go_must (refine (U16_ws _ (by assumption) (by omega) (by simp [be_length])).mono ?_); rintro e w1 ⟨rfl, hw⟩; obtain ⟨q0, q1, q2, q3, q4, q5, q6, q7⟩ := CE.out (by assumption) hw) | (go_at_call 67; go_must (refine (Raw_ws _ _ l0 (by assumption) (by assumption) (by simp [be_length]; omega)).mono ?_); rintro e w1 ⟨rfl, hw⟩; obtain ⟨q0, q1, q2, q3, q4, q5, q6, q7⟩ := CE.out (by assumption) hw) | (go_at_call 74; go_must (refine (Zeros_ws 124 (by decide) (by assumption) (by simp [be_length])).mono ?_); rintro e w1 ⟨rfl, hw⟩; obtain ⟨q0, q1, q2, q3, q4, q5, q6, q7⟩ := CE.out (by assumption) hw) | (go_at_call 68; go_must (refine (Out_ws (by assumption) (by first | (simp [be_length]; done) | (simp [be_length]; omega))).mono ?_); rintro e w1 ⟨v, rfl, hR, hB⟩))
      go_ret2
      exact ⟨_, rfl, Kd.R_nil _ _ _ _ _, (below_alloc (Below.refl _ _) _).trans (hpb.mono (by simp))⟩
  · by_cases hA : (l0.length : Int) = a4
    · rw [if_pos hA] at h
      have hA1 : ((l0.length : Int) != a4) = false := bne_eq_false_iff_eq.mpr hA
      have hA2 : ((l0.length : Int) == a4) = true := beq_iff_eq.mpr hA
      have HA := Lib.hid hA
      clear hA
      simp only [Option.some.injEq, Prod.mk.injEq] at h
      obtain ⟨rfl, rfl⟩ := h
      go_enter Try.func22, Try.ntmps22
      go_wp2_with (first | (go_at_call 69; go_must (refine (PC.out _ _).mono ?_); rintro e w1 ⟨rfl, hpb⟩; obtain ⟨q0, q1, q2, q3, q4, q5, q6, q7⟩ := CB.out hpb) | (go_at_call 64; go_must (refine (NewWriter_ws _).mono ?_); rintro e w1 ⟨g, rfl, hw⟩; obtain ⟨q0, q1, q2, q3, q4, q5, q6, q7⟩ := CE.out (by assumption) hw) | (go_at_call 65; go_must (refine (U64_ws _ (by assumption) (by simp [be_length])).mono ?_); rintro e w1 ⟨rfl, hw⟩; obtain ⟨q0, q1, q2, q3, q4, q5, q6, q7⟩ := CE.out (by assumption) hw) | (go_at_call 66; go_must (refine (U32_ws _ (by assumption) (by omega) (by simp [be_length])).mono ?_); rintro e w1 ⟨rfl, hw⟩; obtain ⟨q0, q1, q2, q3, q4, q5, q6, q7⟩ := CE.out (by assumption) hw) | (go_at_call 70; go_must (refine (U16_ws _ (by assumption) (by omega) (by simp [be_length])).mono ?_); rintro e w1 ⟨rfl, hw⟩; obtain ⟨q0, q1, q2, q3, q4, q5, q6, q7⟩ := CE.out (by assumption) hw) | (go_at_call 67; go_must (refine (Raw_ws _ _ l0 (by assumption) (by assumption) (by simp [be_length]; omega)).mono ?_); rintro e w1 ⟨rfl, hw⟩; obtain ⟨q0, q1, q2, q3, q4, q5, q6, q7⟩ := CE.out (by assumption) hw) | (go_at_call 74; go_must (refine (Zeros_ws 124 (by decide) (by assumption) (by simp [be_length])).mono ?_); rintro e w1 ⟨rfl, hw⟩; obtain ⟨q0, q1, q2, q3, q4, q5, q6, q7⟩ := CE.out (by assumption) hw) | (go_at_call 68; go_must (refine (Out_ws (by assumption) (by first | (simp [be_length]; done) | (simp [be_length]; omega))).mono ?_); rintro e w1 ⟨v, rfl, hR, hB⟩))
      go_ret2
      exact ⟨_, rfl, Kd.R_lower hR (by have := hpb.size; simp at this; omega), (below_alloc (Below.refl _ _) _).trans ((hpb.mono (by simp)).trans (hB.mono (by have := hpb.size; simp at this; omega)))⟩
    · rw [if_neg hA] at h
      have hA1 : ((l0.length : Int) != a4) = true := bne_iff_ne.mpr hA
      have hA2 : ((l0.length : Int) == a4) = false := beq_eq_false_iff_ne.mpr hA
      simp only [Option.some.injEq, Prod.mk.injEq] at h
      obtain ⟨rfl, rfl⟩ := h
      go_enter Try.func22, Try.ntmps22
      go_wp2_with (first | (go_at_call 69; go_must (refine (PC.out _ _).mono ?_); rintro e w1 ⟨rfl, hpb⟩; obtain ⟨q0, q1, q2, q3, q4, q5, q6, q7⟩ := CB.out hpb) | (go_at_call 64; go_must (refine (NewWriter_ws _).mono ?_); rintro e w1 ⟨g, rfl, hw⟩; obtain ⟨q0, q1, q2, q3, q4, q5, q6, q7⟩ := CE.out (by assumption) hw) | (go_at_call 65; go_must (refine (U64_ws _ (by assumption) (by simp [be_length])).mono ?_); rintro e w1 ⟨rfl, hw⟩; obtain ⟨q0, q1, q2, q3, q4, q5, q6, q7⟩ := CE.out (by assumption) hw) | (go_at_call 66; go_must (refine (U32_ws _ (by assumption) (by omega) (by simp [be_length])).mono ?_); rintro e w1 ⟨rfl, hw⟩; obtain ⟨q0, q1, q2, q3, q4, q5, q6, q7⟩ := CE.out (by assumption) hw) | (go_at_call 70; go_must (refine (U16_ws _ (by assumption) (by omega) (by simp [be_length])).mono ?_); rintro e w1 ⟨rfl, hw⟩; obtain ⟨q0, q1, q2, q3, q4, q5, q6, q7⟩ := CE.out (by assumption) hw) | (go_at_call 67; go_must (refine (Raw_ws _ _ l0 (by assumption) (by assumption) (by simp [be_length]; omega)).mono ?_); rintro e w1 ⟨rfl, hw⟩; obtain ⟨q0, q1, q2, q3, q4, q5, q6, q7⟩ := CE.out (by assumption) hw) | (go_at_call 74; go_must (refine (Zeros_ws 124 (by decide) (by assumption) (by simp [be_length])).mono ?_); rintro e w1 ⟨rfl, hw⟩; obtain ⟨q0, q1, q2, q3, q4, q5, q6, q7⟩ := CE.out (by assumption) hw) | (go_at_call 68; go_must (refine (Out_ws (by assumption) (by first | (simp [be_length]; done) | (simp [be_length]; omega))).mono ?_); rintro e w1 ⟨v, rfl, hR, hB⟩))
      go_ret2
      exact ⟨_, rfl, Kd.R_nil _ _ _ _ _, (below_alloc (Below.refl _ _) _).trans (hpb.mono (by simp))⟩

theorem wire_EncodeRequest.calls (a0 a1 a2 a3 a4 : Int) (A0 : Option Addr) (c0 : Nat) (l0 : List Int) (x0 : Bool) (r1 : List Int) (r2 : Int) (w : World) (hr0 : Kd.C (Kd.int .u8) w A0 l0.length l0) (_hc0 : l0.length ≤ c0) (h : wire_EncodeRequest.f a0 a1 a2 a3 a4 l0 x0 = some (r1, r2)) :
    Calls Try.prog 22 #[.agg #[.int .u16 a0, .int .u16 a1, .int .u64 a2, .int .u64 a3, .int .u64 a4, .slice A0 l0.length c0], .bool x0] w fun e w' => ∃ v0_ : Value, e = .returned (.tuple #[v0_, .int .i64 r2]) ∧ Kd.R (Kd.int .u8) 5 w' w.heap.size (fun _ => True) v0_ r1 ∧ Below w.heap.size w w' := by
  unfold wire_EncodeRequest.f at h
  split at h
  case isFalse => cases h
  rename_i hb
  obtain ⟨b0, b1, b4, bl⟩ := hb
  exact request_go (paidB a0 a1 x0) a0 a1 a2 a3 a4 A0 c0 l0 x0 r1 r2 w hr0 b0 b1 b4 bl (Lib.hid fun v5 w => paid_calls v5 a0 a1 a2 a3 a4 x0 w) h

end Go.Proofs.Ytilgfhiomcfmhaa.Hand
