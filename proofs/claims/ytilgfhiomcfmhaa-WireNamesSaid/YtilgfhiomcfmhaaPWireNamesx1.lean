-- PRINTED BY print.sh 35421559b90ae4d0a3588c463048766b98c2df88dd9212a6774a882060cdf62d: not written by this session
import Derived.Test.YtilgfhiomcfmhaaPWireNamesx0
namespace Go.Proofs.Ytilgfhiomcfmhaa.PWireNames
open Go.RowKit Go.Proofs.YtilgfhiomcfmhaaW.PrintWords Go.Proofs.YtilgfhiomcfmhaaW.PrintLast Go.Proofs.YtilgfhiomcfmhaaW.PrintMore
attribute [local go_sem] max2_int min2_int max_two min_two max_three min_three max_four min_four   -- for this text's walks alone
set_option linter.unusedVariables false
set_option linter.unusedSimpArgs false

/-! ### spindlelaw08_num: function 13 -/
def spindlelaw08_num.f (a0 : Int) : Option (Int) := some a0
set_option maxHeartbeats 8000000 in
set_option maxRecDepth 100000 in
theorem spindlelaw08_num.calls (a0 : Int) (r : Int) (w : World) (h : spindlelaw08_num.f a0 = some r) :
    Calls Try.prog 13 #[.int .i64 a0] w fun e w' => e = .returned (.int .i64 r) ∧ Drawn0 w w' := by
  have H : (some a0) = some r := h
  clear h
  obtain rfl := Option.some.inj H
  go_enter Try.func13, Try.ntmps13
  go_wp2
  go_ret
  exact ⟨by first | rfl | (simp; done) | (simp [*]; done), by repeat (first | exact Drawn0.refl _ | apply Drawn0.step)⟩

/-! ### spindlelaw08_WireNames: function 3 -/
def spindlelaw08_WireNames.j0 : Nat → Bool → Option (Bool)
  | 0, _ => none
  | k + 1, x24 => if x24 = true then (some false) else (some true)
def spindlelaw08_WireNames.f (k : Nat)  : Option (Bool) := (spindlelaw08_num.f 10).bind fun t101 => (if t101 = 10 then ((spindlelaw08_num.f 12).bind fun t102 => (if t102 = 12 then ((spindlelaw08_num.f 80).bind fun t103 => (if t103 = 80 then ((spindlelaw08_num.f 81).bind fun t104 => (if t104 = 81 then ((spindlelaw08_num.f 170).bind fun t105 => (if t105 = 170 then (spindlelaw08_WireNames.j0 k false) else (spindlelaw08_WireNames.j0 k true))) else (spindlelaw08_WireNames.j0 k true))) else (spindlelaw08_WireNames.j0 k true))) else (spindlelaw08_WireNames.j0 k true))) else (spindlelaw08_WireNames.j0 k true))
theorem spindlelaw08_WireNames.mono_l : ∀ k, (∀ y0, LeO (spindlelaw08_WireNames.j0 k y0) (spindlelaw08_WireNames.j0 (k + 1) y0))
  | 0 => fun _ r h => by simp [spindlelaw08_WireNames.j0] at h
  | k + 1 => by
    have ih0 := spindlelaw08_WireNames.mono_l k
    · intro y0
      unfold spindlelaw08_WireNames.j0
      repeat' first
      | (with_reducible exact ih0 _)
      | (with_reducible exact LeO.refl _)
      | (with_reducible exact LeO.none _)
      | (with_reducible refine LeO.ite ?_ ?_)
      | (with_reducible refine LeO.bind ?_ (fun _ => ?_))
      | exact ih0 _
      | exact LeO.none _
      | refine LeO.ite ?_ ?_
      | refine LeO.bind ?_ (fun _ => ?_)
theorem spindlelaw08_WireNames.mono : ∀ k, LeO (spindlelaw08_WireNames.f k ) (spindlelaw08_WireNames.f (k + 1) ) := by
  intro  k
  have ih0 := spindlelaw08_WireNames.mono_l k
  unfold spindlelaw08_WireNames.f
  repeat' first
      | (with_reducible exact ih0 _)
      | (with_reducible exact LeO.refl _)
      | (with_reducible exact LeO.none _)
      | (with_reducible refine LeO.ite ?_ ?_)
      | (with_reducible refine LeO.bind ?_ (fun _ => ?_))
      | exact ih0 _
      | exact LeO.none _
      | refine LeO.ite ?_ ?_
      | refine LeO.bind ?_ (fun _ => ?_)
set_option maxHeartbeats 8000000 in
set_option maxRecDepth 100000 in
theorem spindlelaw08_WireNames.calls (k : Nat)  (r : Bool) (w : World) (h : spindlelaw08_WireNames.f k  = some r) :
    Calls Try.prog 3 #[] w fun e w' => e = .returned (.bool r) ∧ Drawn0 w w' := by
  have H : ((spindlelaw08_num.f 10).bind fun t101 => (if t101 = 10 then ((spindlelaw08_num.f 12).bind fun t102 => (if t102 = 12 then ((spindlelaw08_num.f 80).bind fun t103 => (if t103 = 80 then ((spindlelaw08_num.f 81).bind fun t104 => (if t104 = 81 then ((spindlelaw08_num.f 170).bind fun t105 => (if t105 = 170 then (spindlelaw08_WireNames.j0 k false) else (spindlelaw08_WireNames.j0 k true))) else (spindlelaw08_WireNames.j0 k true))) else (spindlelaw08_WireNames.j0 k true))) else (spindlelaw08_WireNames.j0 k true))) else (spindlelaw08_WireNames.j0 k true))) = some r := h
  clear h
  have HC1 := Aside0.mk H
  clear H
  go_enter Try.func3, Try.ntmps3
  go_upto_region 1 with (fail)
  go_cut [24] (fun v24 wc => ∃ (kq : Nat) (x24_0 : Bool), v24 = .bool x24_0 ∧ Aside0 (spindlelaw08_WireNames.j0 kq x24_0 = some r) ∧ Aside0 (kq ≤ k) ∧ Drawn0 w wc)
  case first =>
    have H := HC1.out
    clear HC1
    replace H := Option.bind_eq_some_iff.mp H
    obtain ⟨t101, A20, H⟩ := H
    replace H : (if t101 = 10 then ((spindlelaw08_num.f 12).bind fun t102 => (if t102 = 12 then ((spindlelaw08_num.f 80).bind fun t103 => (if t103 = 80 then ((spindlelaw08_num.f 81).bind fun t104 => (if t104 = 81 then ((spindlelaw08_num.f 170).bind fun t105 => (if t105 = 170 then (spindlelaw08_WireNames.j0 k false) else (spindlelaw08_WireNames.j0 k true))) else (spindlelaw08_WireNames.j0 k true))) else (spindlelaw08_WireNames.j0 k true))) else (spindlelaw08_WireNames.j0 k true))) else (spindlelaw08_WireNames.j0 k true)) = some r := H
    have A2 := Aside0.mk A20
    clear A20
    by_cases c3 : t101 = 10
    · rw [if_pos c3] at H
      have c3b0 : (t101 == 10) = true := beq_iff_eq.mpr c3
      have c3b1 : (t101 != 10) = false := bne_eq_false_iff_eq.mpr c3
      clear c3
      (first | rw [c3b0] | (simp only [i64_w, i32_w]; rw [c3b0]) | skip)
      replace H := Option.bind_eq_some_iff.mp H
      obtain ⟨t102, A40, H⟩ := H
      replace H : (if t102 = 12 then ((spindlelaw08_num.f 80).bind fun t103 => (if t103 = 80 then ((spindlelaw08_num.f 81).bind fun t104 => (if t104 = 81 then ((spindlelaw08_num.f 170).bind fun t105 => (if t105 = 170 then (spindlelaw08_WireNames.j0 k false) else (spindlelaw08_WireNames.j0 k true))) else (spindlelaw08_WireNames.j0 k true))) else (spindlelaw08_WireNames.j0 k true))) else (spindlelaw08_WireNames.j0 k true)) = some r := H
      have A4 := Aside0.mk A40
      clear A40
      by_cases c5 : t102 = 12
      · rw [if_pos c5] at H
        have c5b0 : (t102 == 12) = true := beq_iff_eq.mpr c5
        have c5b1 : (t102 != 12) = false := bne_eq_false_iff_eq.mpr c5
        clear c5
        replace H := Option.bind_eq_some_iff.mp H
        obtain ⟨t103, A60, H⟩ := H
        replace H : (if t103 = 80 then ((spindlelaw08_num.f 81).bind fun t104 => (if t104 = 81 then ((spindlelaw08_num.f 170).bind fun t105 => (if t105 = 170 then (spindlelaw08_WireNames.j0 k false) else (spindlelaw08_WireNames.j0 k true))) else (spindlelaw08_WireNames.j0 k true))) else (spindlelaw08_WireNames.j0 k true)) = some r := H
        have A6 := Aside0.mk A60
        clear A60
        by_cases c7 : t103 = 80
        · rw [if_pos c7] at H
          have c7b0 : (t103 == 80) = true := beq_iff_eq.mpr c7
          have c7b1 : (t103 != 80) = false := bne_eq_false_iff_eq.mpr c7
          clear c7
          replace H := Option.bind_eq_some_iff.mp H
          obtain ⟨t104, A80, H⟩ := H
          replace H : (if t104 = 81 then ((spindlelaw08_num.f 170).bind fun t105 => (if t105 = 170 then (spindlelaw08_WireNames.j0 k false) else (spindlelaw08_WireNames.j0 k true))) else (spindlelaw08_WireNames.j0 k true)) = some r := H
          have A8 := Aside0.mk A80
          clear A80
          by_cases c9 : t104 = 81
          · rw [if_pos c9] at H
            have c9b0 : (t104 == 81) = true := beq_iff_eq.mpr c9
            have c9b1 : (t104 != 81) = false := bne_eq_false_iff_eq.mpr c9
            clear c9
            replace H := Option.bind_eq_some_iff.mp H
            obtain ⟨t105, A100, H⟩ := H
            replace H : (if t105 = 170 then (spindlelaw08_WireNames.j0 k false) else (spindlelaw08_WireNames.j0 k true)) = some r := H
            have A10 := Aside0.mk A100
            clear A100
            by_cases c11 : t105 = 170
            · rw [if_pos c11] at H
              have c11b0 : (t105 == 170) = true := beq_iff_eq.mpr c11
              have c11b1 : (t105 != 170) = false := bne_eq_false_iff_eq.mpr c11
              clear c11
              have H' := Aside0.mk H
              clear H
              go_wp2_with (first | ((with_reducible refine gate_callee (f := 13) rfl ?_); refine goesL_ (some 1) rfl rfl Try.func13 (by kernel_rfl) rfl #[.int .i64 10] rfl (by (try simp only [List.map_toArray, List.map_cons, List.map_nil]); first | done | rfl | (simp only [List.length_drop, List.length_take]; rfl)) ?_; (with_reducible refine (spindlelaw08_num.calls 10 t101 _ A2.out).mono ?_); rintro e w' ⟨rfl, ⟨nd, rfl⟩⟩; refine ⟨_, rfl, ?_⟩) | (go_at_call 13; (with_reducible refine (spindlelaw08_num.calls 12 t102 _ A4.out).mono ?_); rintro e w' ⟨rfl, ⟨nd, rfl⟩⟩) | (go_at_call 13; (with_reducible refine (spindlelaw08_num.calls 80 t103 _ A6.out).mono ?_); rintro e w' ⟨rfl, ⟨nd, rfl⟩⟩) | (go_at_call 13; (with_reducible refine (spindlelaw08_num.calls 81 t104 _ A8.out).mono ?_); rintro e w' ⟨rfl, ⟨nd, rfl⟩⟩) | (go_at_call 13; (with_reducible refine (spindlelaw08_num.calls 170 t105 _ A10.out).mono ?_); rintro e w' ⟨rfl, ⟨nd, rfl⟩⟩))
              go_meet
              case rel => exact ⟨_, (false), (by first | rfl | (simp; done) | (simp [*]; done)), H', ⟨by first | omega | exact Nat.le_refl _⟩, by repeat (first | exact Drawn0.refl _ | apply Drawn0.step)⟩
            · rw [if_neg c11] at H
              have c11b0 : (t105 == 170) = false := beq_eq_false_iff_ne.mpr c11
              have c11b1 : (t105 != 170) = true := bne_iff_ne.mpr c11
              have H' := Aside0.mk H
              clear H
              go_wp2_with (first | ((with_reducible refine gate_callee (f := 13) rfl ?_); refine goesL_ (some 1) rfl rfl Try.func13 (by kernel_rfl) rfl #[.int .i64 10] rfl (by (try simp only [List.map_toArray, List.map_cons, List.map_nil]); first | done | rfl | (simp only [List.length_drop, List.length_take]; rfl)) ?_; (with_reducible refine (spindlelaw08_num.calls 10 t101 _ A2.out).mono ?_); rintro e w' ⟨rfl, ⟨nd, rfl⟩⟩; refine ⟨_, rfl, ?_⟩) | (go_at_call 13; (with_reducible refine (spindlelaw08_num.calls 12 t102 _ A4.out).mono ?_); rintro e w' ⟨rfl, ⟨nd, rfl⟩⟩) | (go_at_call 13; (with_reducible refine (spindlelaw08_num.calls 80 t103 _ A6.out).mono ?_); rintro e w' ⟨rfl, ⟨nd, rfl⟩⟩) | (go_at_call 13; (with_reducible refine (spindlelaw08_num.calls 81 t104 _ A8.out).mono ?_); rintro e w' ⟨rfl, ⟨nd, rfl⟩⟩) | (go_at_call 13; (with_reducible refine (spindlelaw08_num.calls 170 t105 _ A10.out).mono ?_); rintro e w' ⟨rfl, ⟨nd, rfl⟩⟩))
              go_meet
              case rel => exact ⟨_, (true), (by first | rfl | (simp; done) | (simp [*]; done)), H', ⟨by first | omega | exact Nat.le_refl _⟩, by repeat (first | exact Drawn0.refl _ | apply Drawn0.step)⟩
          · rw [if_neg c9] at H
            have c9b0 : (t104 == 81) = false := beq_eq_false_iff_ne.mpr c9
            have c9b1 : (t104 != 81) = true := bne_iff_ne.mpr c9
            have H' := Aside0.mk H
            clear H
            go_wp2_with (first | ((with_reducible refine gate_callee (f := 13) rfl ?_); refine goesL_ (some 1) rfl rfl Try.func13 (by kernel_rfl) rfl #[.int .i64 10] rfl (by (try simp only [List.map_toArray, List.map_cons, List.map_nil]); first | done | rfl | (simp only [List.length_drop, List.length_take]; rfl)) ?_; (with_reducible refine (spindlelaw08_num.calls 10 t101 _ A2.out).mono ?_); rintro e w' ⟨rfl, ⟨nd, rfl⟩⟩; refine ⟨_, rfl, ?_⟩) | (go_at_call 13; (with_reducible refine (spindlelaw08_num.calls 12 t102 _ A4.out).mono ?_); rintro e w' ⟨rfl, ⟨nd, rfl⟩⟩) | (go_at_call 13; (with_reducible refine (spindlelaw08_num.calls 80 t103 _ A6.out).mono ?_); rintro e w' ⟨rfl, ⟨nd, rfl⟩⟩) | (go_at_call 13; (with_reducible refine (spindlelaw08_num.calls 81 t104 _ A8.out).mono ?_); rintro e w' ⟨rfl, ⟨nd, rfl⟩⟩))
            go_meet
            case rel => exact ⟨_, (true), (by first | rfl | (simp; done) | (simp [*]; done)), H', ⟨by first | omega | exact Nat.le_refl _⟩, by repeat (first | exact Drawn0.refl _ | apply Drawn0.step)⟩
        · rw [if_neg c7] at H
          have c7b0 : (t103 == 80) = false := beq_eq_false_iff_ne.mpr c7
          have c7b1 : (t103 != 80) = true := bne_iff_ne.mpr c7
          have H' := Aside0.mk H
          clear H
          go_wp2_with (first | ((with_reducible refine gate_callee (f := 13) rfl ?_); refine goesL_ (some 1) rfl rfl Try.func13 (by kernel_rfl) rfl #[.int .i64 10] rfl (by (try simp only [List.map_toArray, List.map_cons, List.map_nil]); first | done | rfl | (simp only [List.length_drop, List.length_take]; rfl)) ?_; (with_reducible refine (spindlelaw08_num.calls 10 t101 _ A2.out).mono ?_); rintro e w' ⟨rfl, ⟨nd, rfl⟩⟩; refine ⟨_, rfl, ?_⟩) | (go_at_call 13; (with_reducible refine (spindlelaw08_num.calls 12 t102 _ A4.out).mono ?_); rintro e w' ⟨rfl, ⟨nd, rfl⟩⟩) | (go_at_call 13; (with_reducible refine (spindlelaw08_num.calls 80 t103 _ A6.out).mono ?_); rintro e w' ⟨rfl, ⟨nd, rfl⟩⟩))
          go_meet
          case rel => exact ⟨_, (true), (by first | rfl | (simp; done) | (simp [*]; done)), H', ⟨by first | omega | exact Nat.le_refl _⟩, by repeat (first | exact Drawn0.refl _ | apply Drawn0.step)⟩
      · rw [if_neg c5] at H
        have c5b0 : (t102 == 12) = false := beq_eq_false_iff_ne.mpr c5
        have c5b1 : (t102 != 12) = true := bne_iff_ne.mpr c5
        have H' := Aside0.mk H
        clear H
        go_wp2_with (first | ((with_reducible refine gate_callee (f := 13) rfl ?_); refine goesL_ (some 1) rfl rfl Try.func13 (by kernel_rfl) rfl #[.int .i64 10] rfl (by (try simp only [List.map_toArray, List.map_cons, List.map_nil]); first | done | rfl | (simp only [List.length_drop, List.length_take]; rfl)) ?_; (with_reducible refine (spindlelaw08_num.calls 10 t101 _ A2.out).mono ?_); rintro e w' ⟨rfl, ⟨nd, rfl⟩⟩; refine ⟨_, rfl, ?_⟩) | (go_at_call 13; (with_reducible refine (spindlelaw08_num.calls 12 t102 _ A4.out).mono ?_); rintro e w' ⟨rfl, ⟨nd, rfl⟩⟩))
        go_meet
        case rel => exact ⟨_, (true), (by first | rfl | (simp; done) | (simp [*]; done)), H', ⟨by first | omega | exact Nat.le_refl _⟩, by repeat (first | exact Drawn0.refl _ | apply Drawn0.step)⟩
    · rw [if_neg c3] at H
      have c3b0 : (t101 == 10) = false := beq_eq_false_iff_ne.mpr c3
      have c3b1 : (t101 != 10) = true := bne_iff_ne.mpr c3
      (first | rw [c3b0] | (simp only [i64_w, i32_w]; rw [c3b0]) | skip)
      have H' := Aside0.mk H
      clear H
      go_wp2_with (first | ((with_reducible refine gate_callee (f := 13) rfl ?_); refine goesL_ (some 1) rfl rfl Try.func13 (by kernel_rfl) rfl #[.int .i64 10] rfl (by (try simp only [List.map_toArray, List.map_cons, List.map_nil]); first | done | rfl | (simp only [List.length_drop, List.length_take]; rfl)) ?_; (with_reducible refine (spindlelaw08_num.calls 10 t101 _ A2.out).mono ?_); rintro e w' ⟨rfl, ⟨nd, rfl⟩⟩; refine ⟨_, rfl, ?_⟩))
      go_meet
      case rel => exact ⟨_, (true), (by first | rfl | (simp; done) | (simp [*]; done)), H', ⟨by first | omega | exact Nat.le_refl _⟩, by repeat (first | exact Drawn0.refl _ | apply Drawn0.step)⟩
  case rest =>
    clear HC1
    try clear c1
    try clear p2
    try clear c3
    try clear c3b0
    try clear c3b1
    try clear c5
    try clear c5b0
    try clear c5b1
    try clear c7
    try clear c7b0
    try clear c7b1
    try clear c9
    try clear c9b0
    try clear c9b1
    try clear c11
    try clear c11b0
    try clear c11b1
    obtain ⟨kq, x24_0, rfl, HA, HJ0, ⟨mc0, rfl⟩⟩ := hcut
    cases kq with
    | zero => exact absurd HA.out (by simp [spindlelaw08_WireNames.j0])
    | succ kj0 =>
      have H := HA.out
      clear HA
      simp only [spindlelaw08_WireNames.j0] at H
      by_cases c12 : x24_0 = true
      · subst c12
        have H1 : (some false) = some r := by rw [if_pos rfl] at H; exact H
        clear H
        have H := H1
        clear H1
        obtain rfl := Option.some.inj H
        go_wp2
        go_ret
        exact ⟨by first | rfl | (simp; done) | (simp [*]; done), by repeat (first | exact Drawn0.refl _ | apply Drawn0.step)⟩
      · replace c12 := Bool.eq_false_iff.mpr c12
        subst c12
        have H1 : (some true) = some r := by rw [if_neg (show ¬ (false = true) by decide)] at H; exact H
        clear H
        have H := H1
        clear H1
        obtain rfl := Option.some.inj H
        go_wp2
        go_ret
        exact ⟨by first | rfl | (simp; done) | (simp [*]; done), by repeat (first | exact Drawn0.refl _ | apply Drawn0.step)⟩

/-- THE ONE PURE STATEMENT of spindlelaw08_WireNames: yours. -/
def spindlelaw08_WireNames.Pure : Prop := ∃ k, spindlelaw08_WireNames.f k  = some true
theorem spindlelaw08_WireNames.walk (P : spindlelaw08_WireNames.Pure)  (w : World)  :
    Calls Try.prog 3 #[] w fun e w' => e = .returned (.bool true) ∧ Below w.heap.size w w' := by
  obtain ⟨k, h⟩ := P  
  refine (spindlelaw08_WireNames.calls k  true w h).mono ?_
  rintro e w' ⟨rfl, hd⟩
  exact ⟨rfl, hd.below⟩

end Go.Proofs.Ytilgfhiomcfmhaa.PWireNames
