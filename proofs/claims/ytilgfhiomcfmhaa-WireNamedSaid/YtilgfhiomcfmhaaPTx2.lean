-- Written by a program of this workplace (pprint.py) out of the translation.
import Derived.Test.YtilgfhiomcfmhaaPTx0
import Derived.Test.YtilgfhiomcfmhaaPTx1
namespace Go.Proofs.Ytilgfhiomcfmhaa.PT
open Go.Proofs.Ytilgfhiomcfmhaa.Hand Go.RowKit Go.Proofs.YtilgfhiomcfmhaaW.PrintWords Go.Proofs.YtilgfhiomcfmhaaW.PrintLast Go.Proofs.YtilgfhiomcfmhaaW.PrintMore
attribute [local go_sem] max2_int min2_int max_two min_two max_three min_three max_four min_four   -- for this text's walks alone
set_option linter.unusedVariables false
set_option linter.unusedSimpArgs false

/-! ### spindlelaw08_WireTables: function 4 -/
def spindlelaw08_WireTables.f (k : Nat) (a0 : Int) (a1 : Int) (a2 : ByteArray) : Option (Bool) := (wire_Number.f k a0 a2).bind fun bt166 => ((spindleref08_Number.f k a0 a2).bind fun bt168 => ((wire_Name.f k a0 a1).bind fun t170 => ((spindleref08_Name.f k a0 a1).bind fun t171 => (if t170.toList = t171.toList then (if bt166.1 = bt168.1 then (if (bt166.2 == bt168.2) = true then ((spindlelaw08_alive.f k).bind fun t172 => (some t172)) else (some false)) else (some false)) else (some false)))))
theorem spindlelaw08_WireTables.mono : ∀ a0 a1 a2 k, LeO (spindlelaw08_WireTables.f k a0 a1 a2) (spindlelaw08_WireTables.f (k + 1) a0 a1 a2) := by
  intro a0 a1 a2 k
  unfold spindlelaw08_WireTables.f
  repeat' first
      | (with_reducible exact spindlelaw08_alive.mono _)
      | (with_reducible exact spindleref08_Name.mono _ _ _)
      | (with_reducible exact spindleref08_Number.mono _ _ _)
      | (with_reducible exact wire_Name.mono _ _ _)
      | (with_reducible exact wire_Number.mono _ _ _)
      | (with_reducible exact LeO.refl _)
      | (with_reducible exact LeO.none _)
      | (with_reducible refine LeO.ite ?_ ?_)
      | (with_reducible refine LeO.bind ?_ (fun _ => ?_))
      | exact spindlelaw08_alive.mono _
      | exact spindleref08_Name.mono _ _ _
      | exact spindleref08_Number.mono _ _ _
      | exact wire_Name.mono _ _ _
      | exact wire_Number.mono _ _ _
      | exact LeO.none _
      | refine LeO.ite ?_ ?_
      | refine LeO.bind ?_ (fun _ => ?_)
set_option maxHeartbeats 8000000 in
set_option maxRecDepth 100000 in
theorem spindlelaw08_WireTables.calls (k : Nat) (a0 : Int) (a1 : Int) (a2 : ByteArray) (r : Bool) (hrt : r = true) (w : World) (h : spindlelaw08_WireTables.f k a0 a1 a2 = some r) :
    Calls Try.prog 4 #[.int .i64 a0, .int .u32 a1, .string a2] w fun e w' => e = .returned (.bool r) ∧ Below w.heap.size w w' := by
  have HRT := Aside0.mk hrt
  clear hrt
  have HB := Aside0.mk (Below.refl w.heap.size w)
  have H : ((wire_Number.f k a0 a2).bind fun bt166 => ((spindleref08_Number.f k a0 a2).bind fun bt168 => ((wire_Name.f k a0 a1).bind fun t170 => ((spindleref08_Name.f k a0 a1).bind fun t171 => (if t170.toList = t171.toList then (if bt166.1 = bt168.1 then (if (bt166.2 == bt168.2) = true then ((spindlelaw08_alive.f k).bind fun t172 => (some t172)) else (some false)) else (some false)) else (some false)))))) = some r := h
  clear h
  replace H := Option.bind_eq_some_iff.mp H
  obtain ⟨⟨t166, t167⟩, A40, H⟩ := H
  replace H : ((spindleref08_Number.f k a0 a2).bind fun bt168 => ((wire_Name.f k a0 a1).bind fun t170 => ((spindleref08_Name.f k a0 a1).bind fun t171 => (if t170.toList = t171.toList then (if t166 = bt168.1 then (if (t167 == bt168.2) = true then ((spindlelaw08_alive.f k).bind fun t172 => (some t172)) else (some false)) else (some false)) else (some false))))) = some r := H
  have A4 := Aside0.mk A40
  clear A40
  replace H := Option.bind_eq_some_iff.mp H
  obtain ⟨⟨t168, t169⟩, A50, H⟩ := H
  replace H : ((wire_Name.f k a0 a1).bind fun t170 => ((spindleref08_Name.f k a0 a1).bind fun t171 => (if t170.toList = t171.toList then (if t166 = t168 then (if (t167 == t169) = true then ((spindlelaw08_alive.f k).bind fun t172 => (some t172)) else (some false)) else (some false)) else (some false)))) = some r := H
  have A5 := Aside0.mk A50
  clear A50
  replace H := Option.bind_eq_some_iff.mp H
  obtain ⟨t170, A60, H⟩ := H
  replace H : ((spindleref08_Name.f k a0 a1).bind fun t171 => (if t170.toList = t171.toList then (if t166 = t168 then (if (t167 == t169) = true then ((spindlelaw08_alive.f k).bind fun t172 => (some t172)) else (some false)) else (some false)) else (some false))) = some r := H
  have A6 := Aside0.mk A60
  clear A60
  replace H := Option.bind_eq_some_iff.mp H
  obtain ⟨t171, A70, H⟩ := H
  replace H : (if t170.toList = t171.toList then (if t166 = t168 then (if (t167 == t169) = true then ((spindlelaw08_alive.f k).bind fun t172 => (some t172)) else (some false)) else (some false)) else (some false)) = some r := H
  have A7 := Aside0.mk A70
  clear A70
  by_cases c8 : t170.toList = t171.toList
  · rw [if_pos c8] at H
    have c8b0 : (t170.toList == t171.toList) = true := beq_iff_eq.mpr c8
    have c8b1 : (t170.toList != t171.toList) = false := bne_eq_false_iff_eq.mpr c8
    clear c8
    by_cases c9 : t166 = t168
    · rw [if_pos c9] at H
      have c9b0 : (t166 == t168) = true := beq_iff_eq.mpr c9
      have c9b1 : (t166 != t168) = false := bne_eq_false_iff_eq.mpr c9
      clear c9
      by_cases c10 : (t167 == t169) = true
      · rw [if_pos c10] at H
        have c10b0 : (t167 == t169) = true := c10
        (try (have c10b1 : decide (t167 = t169) = true := by simpa using c10))
        (try (have c10b2 : (t167 == t169) = true := by simpa using c10))
        clear c10
        replace H := Option.bind_eq_some_iff.mp H
        obtain ⟨t172, A110, H⟩ := H
        replace H : (some t172) = some r := H
        have A11 := Aside0.mk A110
        clear A110
        obtain rfl := Option.some.inj H
        go_enter Try.func4, Try.ntmps4
        go_wp2_with (first | ((with_reducible refine gate_callee (f := 14) rfl ?_); refine goesL_ (some 14) rfl rfl Try.func14 (by kernel_rfl) rfl #[.int .i64 a0, .string a2] rfl (by (try simp only [List.map_toArray, List.map_cons, List.map_nil]); first | done | rfl | (simp only [List.length_drop, List.length_take]; rfl)) ?_; (with_reducible refine (wire_Number.calls k a0 a2 t166 t167 _ A4.out).mono ?_); rintro e w12 ⟨rfl, hb⟩; refine ⟨_, rfl, ?_⟩; have n0_ := Aside0.mk (below_step (by repeat (first | (with_reducible first | exact HB.out | apply below_alloc | apply pw_below_drewN | apply below_drew1) | exact HB.out)) hb); clear HB; have HB := n0_; clear n0_; (try clear hb); (try clear hb2); (try clear hk); (try clear hi)) | ((with_reducible refine gate_callee (f := 15) rfl ?_); refine goesL_ (some 20) rfl rfl Try.func15 (by kernel_rfl) rfl #[.int .i64 a0, .string a2] rfl (by (try simp only [List.map_toArray, List.map_cons, List.map_nil]); first | done | rfl | (simp only [List.length_drop, List.length_take]; rfl)) ?_; (with_reducible refine (spindleref08_Number.calls k a0 a2 t168 t169 _ A5.out).mono ?_); rintro e w13 ⟨rfl, hb⟩; refine ⟨_, rfl, ?_⟩; have n0_ := Aside0.mk (below_step (by repeat (first | (with_reducible first | exact HB.out | apply below_alloc | apply pw_below_drewN | apply below_drew1) | exact HB.out)) hb); clear HB; have HB := n0_; clear n0_; (try clear hb); (try clear hb2); (try clear hk); (try clear hi)) | ((with_reducible refine gate_callee (f := 16) rfl ?_); refine goesL_ (some 25) rfl rfl Try.func16 (by kernel_rfl) rfl #[.int .i64 a0, .int .u32 a1] rfl (by (try simp only [List.map_toArray, List.map_cons, List.map_nil]); first | done | rfl | (simp only [List.length_drop, List.length_take]; rfl)) ?_; (with_reducible refine (wire_Name.calls k a0 a1 t170 _ A6.out).mono ?_); rintro e w14 ⟨rfl, hb⟩; refine ⟨_, rfl, ?_⟩; have n0_ := Aside0.mk (below_step (by repeat (first | (with_reducible first | exact HB.out | apply below_alloc | apply pw_below_drewN | apply below_drew1) | exact HB.out)) hb); clear HB; have HB := n0_; clear n0_; (try clear hb); (try clear hb2); (try clear hk); (try clear hi)) | ((with_reducible refine gate_callee (f := 17) rfl ?_); refine goesL_ (some 28) rfl rfl Try.func17 (by kernel_rfl) rfl #[.int .i64 a0, .int .u32 a1] rfl (by (try simp only [List.map_toArray, List.map_cons, List.map_nil]); first | done | rfl | (simp only [List.length_drop, List.length_take]; rfl)) ?_; (with_reducible refine (spindleref08_Name.calls k a0 a1 t171 _ A7.out).mono ?_); rintro e w15 ⟨rfl, hb⟩; refine ⟨_, rfl, ?_⟩; have n0_ := Aside0.mk (below_step (by repeat (first | (with_reducible first | exact HB.out | apply below_alloc | apply pw_below_drewN | apply below_drew1) | exact HB.out)) hb); clear HB; have HB := n0_; clear n0_; (try clear hb); (try clear hb2); (try clear hk); (try clear hi)) | (go_at_call 18; (with_reducible refine (spindlelaw08_alive.calls k  t172 _ A11.out).mono ?_); rintro e w16 ⟨rfl, hb⟩; have n0_ := Aside0.mk (below_step (by repeat (first | (with_reducible first | exact HB.out | apply below_alloc | apply pw_below_drewN | apply below_drew1) | exact HB.out)) hb); clear HB; have HB := n0_; clear n0_; (try clear hb); (try clear hb2); (try clear hk); (try clear hi)))
        go_ret
        exact ⟨by first | rfl | (simp [errW_none, errW_some] <;> rfl) | (simp [*, errW_none, errW_some] <;> rfl) | (exfalso; simp_all; done), by repeat (first | (with_reducible first | exact HB.out | apply below_alloc | apply pw_below_drewN | apply below_drew1) | exact HB.out)⟩
      · rw [if_neg c10] at H
        have c10b0 : (t167 == t169) = false := by simpa using c10
        (try (have c10b1 : decide (t167 = t169) = false := by simpa using c10))
        (try (have c10b2 : (t167 == t169) = false := by simpa using c10))
        (try (have c10b3 : ¬ (t167 = t169) := by simpa using c10))
        clear c10
        obtain rfl := Option.some.inj H
        exact absurd HRT.out (by decide)
    · rw [if_neg c9] at H
      have c9b0 : (t166 == t168) = false := beq_eq_false_iff_ne.mpr c9
      have c9b1 : (t166 != t168) = true := bne_iff_ne.mpr c9
      obtain rfl := Option.some.inj H
      exact absurd HRT.out (by decide)
  · rw [if_neg c8] at H
    have c8b0 : (t170.toList == t171.toList) = false := beq_eq_false_iff_ne.mpr c8
    have c8b1 : (t170.toList != t171.toList) = true := bne_iff_ne.mpr c8
    obtain rfl := Option.some.inj H
    exact absurd HRT.out (by decide)

/-- THE ONE PURE STATEMENT of spindlelaw08_WireTables: yours. -/
def spindlelaw08_WireTables.Pure : Prop := ∀ (a0 : Int) (a1 : Int) (a2 : ByteArray), (Lit.int .i64 a0).wf = true → (Lit.int .u32 a1).wf = true → a2.size ≤ 140737488351232 → ∃ k, spindlelaw08_WireTables.f k a0 a1 a2 = some true
theorem spindlelaw08_WireTables.walk (P : spindlelaw08_WireTables.Pure) (a0 : Int) (a1 : Int) (a2 : ByteArray) (w : World) (w0 : (Lit.int .i64 a0).wf = true) (w1 : (Lit.int .u32 a1).wf = true) (w2 : a2.size ≤ 140737488351232) :
    Calls Try.prog 4 #[.int .i64 a0, .int .u32 a1, .string a2] w fun e w' => e = .returned (.bool true) ∧ Below w.heap.size w w' := by
  obtain ⟨k, h⟩ := P a0 a1 a2 w0 w1 w2
  refine (spindlelaw08_WireTables.calls k a0 a1 a2 true rfl w h).mono ?_
  rintro e w' ⟨rfl, hd⟩
  exact ⟨rfl, hd⟩

/-! ### spindlelaw08_WireNamed: function 5 -/
def spindlelaw08_WireNamed.f (k : Nat) (a0 : Int) (a1 : Int) (a2 : Int) : Option (Bool) := (wire_Name.f k a0 a1).bind fun t173 => ((wire_Name.f k a0 a2).bind fun t174 => ((wire_Number.f k a0 t173).bind fun bt175 => ((wire_Number.f k a0 (⟨#[]⟩ : ByteArray)).bind fun bt177 => (if bt177.2 = true then (some false) else (if (bt175.2 != (t173.toList != ([] : List UInt8))) = true then (some false) else (if bt175.2 = true then (if bt175.1 = a1 then (if t173.toList = ([] : List UInt8) then (if a0 ≥ 1 then (if a0 ≤ 7 then ((spindlelaw08_alive.f k).bind fun t179 => (some t179)) else ((spindlelaw08_alive.f k).bind fun t180 => (some t180))) else ((spindlelaw08_alive.f k).bind fun t181 => (some t181))) else (if a1 = a2 then (if a0 ≥ 1 then (if a0 ≤ 7 then ((spindlelaw08_alive.f k).bind fun t182 => (some t182)) else (some false)) else (some false)) else (if t173.toList = t174.toList then (some false) else (if a0 ≥ 1 then (if a0 ≤ 7 then ((spindlelaw08_alive.f k).bind fun t183 => (some t183)) else (some false)) else (some false))))) else (some false)) else (if t173.toList = ([] : List UInt8) then (if a0 ≥ 1 then (if a0 ≤ 7 then ((spindlelaw08_alive.f k).bind fun t184 => (some t184)) else ((spindlelaw08_alive.f k).bind fun t185 => (some t185))) else ((spindlelaw08_alive.f k).bind fun t186 => (some t186))) else (if a1 = a2 then (if a0 ≥ 1 then (if a0 ≤ 7 then ((spindlelaw08_alive.f k).bind fun t187 => (some t187)) else (some false)) else (some false)) else (if t173.toList = t174.toList then (some false) else (if a0 ≥ 1 then (if a0 ≤ 7 then ((spindlelaw08_alive.f k).bind fun t188 => (some t188)) else (some false)) else (some false)))))))))))
theorem spindlelaw08_WireNamed.mono : ∀ a0 a1 a2 k, LeO (spindlelaw08_WireNamed.f k a0 a1 a2) (spindlelaw08_WireNamed.f (k + 1) a0 a1 a2) := by
  intro a0 a1 a2 k
  unfold spindlelaw08_WireNamed.f
  repeat' first
      | (with_reducible exact spindlelaw08_alive.mono _)
      | (with_reducible exact wire_Name.mono _ _ _)
      | (with_reducible exact wire_Number.mono _ _ _)
      | (with_reducible exact LeO.refl _)
      | (with_reducible exact LeO.none _)
      | (with_reducible refine LeO.ite ?_ ?_)
      | (with_reducible refine LeO.bind ?_ (fun _ => ?_))
      | exact spindlelaw08_alive.mono _
      | exact wire_Name.mono _ _ _
      | exact wire_Number.mono _ _ _
      | exact LeO.none _
      | refine LeO.ite ?_ ?_
      | refine LeO.bind ?_ (fun _ => ?_)
set_option maxHeartbeats 8000000 in
set_option maxRecDepth 100000 in
theorem spindlelaw08_WireNamed.calls (k : Nat) (a0 : Int) (a1 : Int) (a2 : Int) (r : Bool) (hrt : r = true) (w : World) (h : spindlelaw08_WireNamed.f k a0 a1 a2 = some r) :
    Calls Try.prog 5 #[.int .i64 a0, .int .u32 a1, .int .u32 a2] w fun e w' => e = .returned (.bool r) ∧ Below w.heap.size w w' := by
  have HRT := Aside0.mk hrt
  clear hrt
  have HB := Aside0.mk (Below.refl w.heap.size w)
  have H : ((wire_Name.f k a0 a1).bind fun t173 => ((wire_Name.f k a0 a2).bind fun t174 => ((wire_Number.f k a0 t173).bind fun bt175 => ((wire_Number.f k a0 (⟨#[]⟩ : ByteArray)).bind fun bt177 => (if bt177.2 = true then (some false) else (if (bt175.2 != (t173.toList != ([] : List UInt8))) = true then (some false) else (if bt175.2 = true then (if bt175.1 = a1 then (if t173.toList = ([] : List UInt8) then (if a0 ≥ 1 then (if a0 ≤ 7 then ((spindlelaw08_alive.f k).bind fun t179 => (some t179)) else ((spindlelaw08_alive.f k).bind fun t180 => (some t180))) else ((spindlelaw08_alive.f k).bind fun t181 => (some t181))) else (if a1 = a2 then (if a0 ≥ 1 then (if a0 ≤ 7 then ((spindlelaw08_alive.f k).bind fun t182 => (some t182)) else (some false)) else (some false)) else (if t173.toList = t174.toList then (some false) else (if a0 ≥ 1 then (if a0 ≤ 7 then ((spindlelaw08_alive.f k).bind fun t183 => (some t183)) else (some false)) else (some false))))) else (some false)) else (if t173.toList = ([] : List UInt8) then (if a0 ≥ 1 then (if a0 ≤ 7 then ((spindlelaw08_alive.f k).bind fun t184 => (some t184)) else ((spindlelaw08_alive.f k).bind fun t185 => (some t185))) else ((spindlelaw08_alive.f k).bind fun t186 => (some t186))) else (if a1 = a2 then (if a0 ≥ 1 then (if a0 ≤ 7 then ((spindlelaw08_alive.f k).bind fun t187 => (some t187)) else (some false)) else (some false)) else (if t173.toList = t174.toList then (some false) else (if a0 ≥ 1 then (if a0 ≤ 7 then ((spindlelaw08_alive.f k).bind fun t188 => (some t188)) else (some false)) else (some false)))))))))))) = some r := h
  clear h
  replace H := Option.bind_eq_some_iff.mp H
  obtain ⟨t173, A40, H⟩ := H
  replace H : ((wire_Name.f k a0 a2).bind fun t174 => ((wire_Number.f k a0 t173).bind fun bt175 => ((wire_Number.f k a0 (⟨#[]⟩ : ByteArray)).bind fun bt177 => (if bt177.2 = true then (some false) else (if (bt175.2 != (t173.toList != ([] : List UInt8))) = true then (some false) else (if bt175.2 = true then (if bt175.1 = a1 then (if t173.toList = ([] : List UInt8) then (if a0 ≥ 1 then (if a0 ≤ 7 then ((spindlelaw08_alive.f k).bind fun t179 => (some t179)) else ((spindlelaw08_alive.f k).bind fun t180 => (some t180))) else ((spindlelaw08_alive.f k).bind fun t181 => (some t181))) else (if a1 = a2 then (if a0 ≥ 1 then (if a0 ≤ 7 then ((spindlelaw08_alive.f k).bind fun t182 => (some t182)) else (some false)) else (some false)) else (if t173.toList = t174.toList then (some false) else (if a0 ≥ 1 then (if a0 ≤ 7 then ((spindlelaw08_alive.f k).bind fun t183 => (some t183)) else (some false)) else (some false))))) else (some false)) else (if t173.toList = ([] : List UInt8) then (if a0 ≥ 1 then (if a0 ≤ 7 then ((spindlelaw08_alive.f k).bind fun t184 => (some t184)) else ((spindlelaw08_alive.f k).bind fun t185 => (some t185))) else ((spindlelaw08_alive.f k).bind fun t186 => (some t186))) else (if a1 = a2 then (if a0 ≥ 1 then (if a0 ≤ 7 then ((spindlelaw08_alive.f k).bind fun t187 => (some t187)) else (some false)) else (some false)) else (if t173.toList = t174.toList then (some false) else (if a0 ≥ 1 then (if a0 ≤ 7 then ((spindlelaw08_alive.f k).bind fun t188 => (some t188)) else (some false)) else (some false))))))))))) = some r := H
  have A4 := Aside0.mk A40
  clear A40
  replace H := Option.bind_eq_some_iff.mp H
  obtain ⟨t174, A50, H⟩ := H
  replace H : ((wire_Number.f k a0 t173).bind fun bt175 => ((wire_Number.f k a0 (⟨#[]⟩ : ByteArray)).bind fun bt177 => (if bt177.2 = true then (some false) else (if (bt175.2 != (t173.toList != ([] : List UInt8))) = true then (some false) else (if bt175.2 = true then (if bt175.1 = a1 then (if t173.toList = ([] : List UInt8) then (if a0 ≥ 1 then (if a0 ≤ 7 then ((spindlelaw08_alive.f k).bind fun t179 => (some t179)) else ((spindlelaw08_alive.f k).bind fun t180 => (some t180))) else ((spindlelaw08_alive.f k).bind fun t181 => (some t181))) else (if a1 = a2 then (if a0 ≥ 1 then (if a0 ≤ 7 then ((spindlelaw08_alive.f k).bind fun t182 => (some t182)) else (some false)) else (some false)) else (if t173.toList = t174.toList then (some false) else (if a0 ≥ 1 then (if a0 ≤ 7 then ((spindlelaw08_alive.f k).bind fun t183 => (some t183)) else (some false)) else (some false))))) else (some false)) else (if t173.toList = ([] : List UInt8) then (if a0 ≥ 1 then (if a0 ≤ 7 then ((spindlelaw08_alive.f k).bind fun t184 => (some t184)) else ((spindlelaw08_alive.f k).bind fun t185 => (some t185))) else ((spindlelaw08_alive.f k).bind fun t186 => (some t186))) else (if a1 = a2 then (if a0 ≥ 1 then (if a0 ≤ 7 then ((spindlelaw08_alive.f k).bind fun t187 => (some t187)) else (some false)) else (some false)) else (if t173.toList = t174.toList then (some false) else (if a0 ≥ 1 then (if a0 ≤ 7 then ((spindlelaw08_alive.f k).bind fun t188 => (some t188)) else (some false)) else (some false)))))))))) = some r := H
  have A5 := Aside0.mk A50
  clear A50
  replace H := Option.bind_eq_some_iff.mp H
  obtain ⟨⟨t175, t176⟩, A60, H⟩ := H
  replace H : ((wire_Number.f k a0 (⟨#[]⟩ : ByteArray)).bind fun bt177 => (if bt177.2 = true then (some false) else (if (t176 != (t173.toList != ([] : List UInt8))) = true then (some false) else (if t176 = true then (if t175 = a1 then (if t173.toList = ([] : List UInt8) then (if a0 ≥ 1 then (if a0 ≤ 7 then ((spindlelaw08_alive.f k).bind fun t179 => (some t179)) else ((spindlelaw08_alive.f k).bind fun t180 => (some t180))) else ((spindlelaw08_alive.f k).bind fun t181 => (some t181))) else (if a1 = a2 then (if a0 ≥ 1 then (if a0 ≤ 7 then ((spindlelaw08_alive.f k).bind fun t182 => (some t182)) else (some false)) else (some false)) else (if t173.toList = t174.toList then (some false) else (if a0 ≥ 1 then (if a0 ≤ 7 then ((spindlelaw08_alive.f k).bind fun t183 => (some t183)) else (some false)) else (some false))))) else (some false)) else (if t173.toList = ([] : List UInt8) then (if a0 ≥ 1 then (if a0 ≤ 7 then ((spindlelaw08_alive.f k).bind fun t184 => (some t184)) else ((spindlelaw08_alive.f k).bind fun t185 => (some t185))) else ((spindlelaw08_alive.f k).bind fun t186 => (some t186))) else (if a1 = a2 then (if a0 ≥ 1 then (if a0 ≤ 7 then ((spindlelaw08_alive.f k).bind fun t187 => (some t187)) else (some false)) else (some false)) else (if t173.toList = t174.toList then (some false) else (if a0 ≥ 1 then (if a0 ≤ 7 then ((spindlelaw08_alive.f k).bind fun t188 => (some t188)) else (some false)) else (some false))))))))) = some r := H
  have A6 := Aside0.mk A60
  clear A60
  replace H := Option.bind_eq_some_iff.mp H
  obtain ⟨⟨t177, t178⟩, A70, H⟩ := H
  replace H : (if t178 = true then (some false) else (if (t176 != (t173.toList != ([] : List UInt8))) = true then (some false) else (if t176 = true then (if t175 = a1 then (if t173.toList = ([] : List UInt8) then (if a0 ≥ 1 then (if a0 ≤ 7 then ((spindlelaw08_alive.f k).bind fun t179 => (some t179)) else ((spindlelaw08_alive.f k).bind fun t180 => (some t180))) else ((spindlelaw08_alive.f k).bind fun t181 => (some t181))) else (if a1 = a2 then (if a0 ≥ 1 then (if a0 ≤ 7 then ((spindlelaw08_alive.f k).bind fun t182 => (some t182)) else (some false)) else (some false)) else (if t173.toList = t174.toList then (some false) else (if a0 ≥ 1 then (if a0 ≤ 7 then ((spindlelaw08_alive.f k).bind fun t183 => (some t183)) else (some false)) else (some false))))) else (some false)) else (if t173.toList = ([] : List UInt8) then (if a0 ≥ 1 then (if a0 ≤ 7 then ((spindlelaw08_alive.f k).bind fun t184 => (some t184)) else ((spindlelaw08_alive.f k).bind fun t185 => (some t185))) else ((spindlelaw08_alive.f k).bind fun t186 => (some t186))) else (if a1 = a2 then (if a0 ≥ 1 then (if a0 ≤ 7 then ((spindlelaw08_alive.f k).bind fun t187 => (some t187)) else (some false)) else (some false)) else (if t173.toList = t174.toList then (some false) else (if a0 ≥ 1 then (if a0 ≤ 7 then ((spindlelaw08_alive.f k).bind fun t188 => (some t188)) else (some false)) else (some false)))))))) = some r := H
  have A7 := Aside0.mk A70
  clear A70
  by_cases c8 : t178 = true
  · subst c8
    have H1 : (some false) = some r := by rw [if_pos rfl] at H; exact H
    clear H
    have H := H1
    clear H1
    obtain rfl := Option.some.inj H
    exact absurd HRT.out (by decide)
  · replace c8 := Bool.eq_false_iff.mpr c8
    subst c8
    have H1 : (if (t176 != (t173.toList != ([] : List UInt8))) = true then (some false) else (if t176 = true then (if t175 = a1 then (if t173.toList = ([] : List UInt8) then (if a0 ≥ 1 then (if a0 ≤ 7 then ((spindlelaw08_alive.f k).bind fun t179 => (some t179)) else ((spindlelaw08_alive.f k).bind fun t180 => (some t180))) else ((spindlelaw08_alive.f k).bind fun t181 => (some t181))) else (if a1 = a2 then (if a0 ≥ 1 then (if a0 ≤ 7 then ((spindlelaw08_alive.f k).bind fun t182 => (some t182)) else (some false)) else (some false)) else (if t173.toList = t174.toList then (some false) else (if a0 ≥ 1 then (if a0 ≤ 7 then ((spindlelaw08_alive.f k).bind fun t183 => (some t183)) else (some false)) else (some false))))) else (some false)) else (if t173.toList = ([] : List UInt8) then (if a0 ≥ 1 then (if a0 ≤ 7 then ((spindlelaw08_alive.f k).bind fun t184 => (some t184)) else ((spindlelaw08_alive.f k).bind fun t185 => (some t185))) else ((spindlelaw08_alive.f k).bind fun t186 => (some t186))) else (if a1 = a2 then (if a0 ≥ 1 then (if a0 ≤ 7 then ((spindlelaw08_alive.f k).bind fun t187 => (some t187)) else (some false)) else (some false)) else (if t173.toList = t174.toList then (some false) else (if a0 ≥ 1 then (if a0 ≤ 7 then ((spindlelaw08_alive.f k).bind fun t188 => (some t188)) else (some false)) else (some false))))))) = some r := by rw [if_neg (show ¬ (false = true) by decide)] at H; exact H
    clear H
    have H := H1
    clear H1
    by_cases c9 : (t176 != (t173.toList != ([] : List UInt8))) = true
    · rw [if_pos c9] at H
      have c9b0 : (t176 != (t173.toList != ([] : List UInt8))) = true := c9
      (try (have c9b1 : decide (t176 = (t173.toList != ([] : List UInt8))) = false := by simpa using c9))
      (try (have c9b2 : (t176 == (t173.toList != ([] : List UInt8))) = false := by simpa using c9))
      (try (have c9b3 : ¬ (t176 = (t173.toList != ([] : List UInt8))) := by simpa using c9))
      clear c9
      obtain rfl := Option.some.inj H
      exact absurd HRT.out (by decide)
    · rw [if_neg c9] at H
      have c9b0 : (t176 != (t173.toList != ([] : List UInt8))) = false := by simpa using c9
      (try (have c9b1 : decide (t176 = (t173.toList != ([] : List UInt8))) = true := by simpa using c9))
      (try (have c9b2 : (t176 == (t173.toList != ([] : List UInt8))) = true := by simpa using c9))
      clear c9
      by_cases c10 : t176 = true
      · subst c10
        have H1 : (if t175 = a1 then (if t173.toList = ([] : List UInt8) then (if a0 ≥ 1 then (if a0 ≤ 7 then ((spindlelaw08_alive.f k).bind fun t179 => (some t179)) else ((spindlelaw08_alive.f k).bind fun t180 => (some t180))) else ((spindlelaw08_alive.f k).bind fun t181 => (some t181))) else (if a1 = a2 then (if a0 ≥ 1 then (if a0 ≤ 7 then ((spindlelaw08_alive.f k).bind fun t182 => (some t182)) else (some false)) else (some false)) else (if t173.toList = t174.toList then (some false) else (if a0 ≥ 1 then (if a0 ≤ 7 then ((spindlelaw08_alive.f k).bind fun t183 => (some t183)) else (some false)) else (some false))))) else (some false)) = some r := by rw [if_pos rfl] at H; exact H
        clear H
        have H := H1
        clear H1
        by_cases c11 : t175 = a1
        · rw [if_pos c11] at H
          have c11b0 : (t175 == a1) = true := beq_iff_eq.mpr c11
          have c11b1 : (t175 != a1) = false := bne_eq_false_iff_eq.mpr c11
          clear c11
          by_cases c12 : t173.toList = ([] : List UInt8)
          · rw [if_pos c12] at H
            have c12b0 : (t173.toList == ([] : List UInt8)) = true := beq_iff_eq.mpr c12
            have c12b1 : (t173.toList != ([] : List UInt8)) = false := bne_eq_false_iff_eq.mpr c12
            clear c12
            by_cases c13 : a0 ≥ 1
            · rw [if_pos c13] at H
              have c13b0 : decide (1 ≤ a0) = true := decide_eq_true c13
              clear c13
              by_cases c14 : a0 ≤ 7
              · rw [if_pos c14] at H
                have c14b0 : decide (a0 ≤ 7) = true := decide_eq_true c14
                clear c14
                replace H := Option.bind_eq_some_iff.mp H
                obtain ⟨t179, A150, H⟩ := H
                replace H : (some t179) = some r := H
                have A15 := Aside0.mk A150
                clear A150
                obtain rfl := Option.some.inj H
                go_enter Try.func5, Try.ntmps5
                go_wp2_with (first | ((with_reducible refine gate_callee (f := 16) rfl ?_); refine goesL_ (some 15) rfl rfl Try.func16 (by kernel_rfl) rfl #[.int .i64 a0, .int .u32 a1] rfl (by (try simp only [List.map_toArray, List.map_cons, List.map_nil]); first | done | rfl | (simp only [List.length_drop, List.length_take]; rfl)) ?_; (with_reducible refine (wire_Name.calls k a0 a1 t173 _ A4.out).mono ?_); rintro e w16 ⟨rfl, hb⟩; refine ⟨_, rfl, ?_⟩; have n0_ := Aside0.mk (below_step (by repeat (first | (with_reducible first | exact HB.out | apply below_alloc | apply pw_below_drewN | apply below_drew1) | exact HB.out)) hb); clear HB; have HB := n0_; clear n0_; (try clear hb); (try clear hb2); (try clear hk); (try clear hi)) | ((with_reducible refine gate_callee (f := 16) rfl ?_); refine goesL_ (some 18) rfl rfl Try.func16 (by kernel_rfl) rfl #[.int .i64 a0, .int .u32 a2] rfl (by (try simp only [List.map_toArray, List.map_cons, List.map_nil]); first | done | rfl | (simp only [List.length_drop, List.length_take]; rfl)) ?_; (with_reducible refine (wire_Name.calls k a0 a2 t174 _ A5.out).mono ?_); rintro e w17 ⟨rfl, hb⟩; refine ⟨_, rfl, ?_⟩; have n0_ := Aside0.mk (below_step (by repeat (first | (with_reducible first | exact HB.out | apply below_alloc | apply pw_below_drewN | apply below_drew1) | exact HB.out)) hb); clear HB; have HB := n0_; clear n0_; (try clear hb); (try clear hb2); (try clear hk); (try clear hi)) | ((with_reducible refine gate_callee (f := 14) rfl ?_); refine goesL_ (some 22) rfl rfl Try.func14 (by kernel_rfl) rfl #[.int .i64 a0, .string t173] rfl (by (try simp only [List.map_toArray, List.map_cons, List.map_nil]); first | done | rfl | (simp only [List.length_drop, List.length_take]; rfl)) ?_; (with_reducible refine (wire_Number.calls k a0 t173 t175 true _ A6.out).mono ?_); rintro e w18 ⟨rfl, hb⟩; refine ⟨_, rfl, ?_⟩; have n0_ := Aside0.mk (below_step (by repeat (first | (with_reducible first | exact HB.out | apply below_alloc | apply pw_below_drewN | apply below_drew1) | exact HB.out)) hb); clear HB; have HB := n0_; clear n0_; (try clear hb); (try clear hb2); (try clear hk); (try clear hi)) | ((with_reducible refine gate_callee (f := 14) rfl ?_); refine goesL_ (some 27) rfl rfl Try.func14 (by kernel_rfl) rfl #[.int .i64 a0, .string (⟨#[]⟩ : ByteArray)] rfl (by (try simp only [List.map_toArray, List.map_cons, List.map_nil]); first | done | rfl | (simp only [List.length_drop, List.length_take]; rfl)) ?_; (with_reducible refine (wire_Number.calls k a0 (⟨#[]⟩ : ByteArray) t177 false _ A7.out).mono ?_); rintro e w19 ⟨rfl, hb⟩; refine ⟨_, rfl, ?_⟩; have n0_ := Aside0.mk (below_step (by repeat (first | (with_reducible first | exact HB.out | apply below_alloc | apply pw_below_drewN | apply below_drew1) | exact HB.out)) hb); clear HB; have HB := n0_; clear n0_; (try clear hb); (try clear hb2); (try clear hk); (try clear hi)) | (go_at_call 18; (with_reducible refine (spindlelaw08_alive.calls k  t179 _ A15.out).mono ?_); rintro e w20 ⟨rfl, hb⟩; have n0_ := Aside0.mk (below_step (by repeat (first | (with_reducible first | exact HB.out | apply below_alloc | apply pw_below_drewN | apply below_drew1) | exact HB.out)) hb); clear HB; have HB := n0_; clear n0_; (try clear hb); (try clear hb2); (try clear hk); (try clear hi)))
                go_ret
                exact ⟨by first | rfl | (simp [errW_none, errW_some] <;> rfl) | (simp [*, errW_none, errW_some] <;> rfl) | (exfalso; simp_all; done), by repeat (first | (with_reducible first | exact HB.out | apply below_alloc | apply pw_below_drewN | apply below_drew1) | exact HB.out)⟩
              · rw [if_neg c14] at H
                have c14b0 : decide (a0 ≤ 7) = false := decide_eq_false c14
                clear c14
                replace H := Option.bind_eq_some_iff.mp H
                obtain ⟨t180, A210, H⟩ := H
                replace H : (some t180) = some r := H
                have A21 := Aside0.mk A210
                clear A210
                obtain rfl := Option.some.inj H
                go_enter Try.func5, Try.ntmps5
                go_wp2_with (first | ((with_reducible refine gate_callee (f := 16) rfl ?_); refine goesL_ (some 15) rfl rfl Try.func16 (by kernel_rfl) rfl #[.int .i64 a0, .int .u32 a1] rfl (by (try simp only [List.map_toArray, List.map_cons, List.map_nil]); first | done | rfl | (simp only [List.length_drop, List.length_take]; rfl)) ?_; (with_reducible refine (wire_Name.calls k a0 a1 t173 _ A4.out).mono ?_); rintro e w22 ⟨rfl, hb⟩; refine ⟨_, rfl, ?_⟩; have n0_ := Aside0.mk (below_step (by repeat (first | (with_reducible first | exact HB.out | apply below_alloc | apply pw_below_drewN | apply below_drew1) | exact HB.out)) hb); clear HB; have HB := n0_; clear n0_; (try clear hb); (try clear hb2); (try clear hk); (try clear hi)) | ((with_reducible refine gate_callee (f := 16) rfl ?_); refine goesL_ (some 18) rfl rfl Try.func16 (by kernel_rfl) rfl #[.int .i64 a0, .int .u32 a2] rfl (by (try simp only [List.map_toArray, List.map_cons, List.map_nil]); first | done | rfl | (simp only [List.length_drop, List.length_take]; rfl)) ?_; (with_reducible refine (wire_Name.calls k a0 a2 t174 _ A5.out).mono ?_); rintro e w23 ⟨rfl, hb⟩; refine ⟨_, rfl, ?_⟩; have n0_ := Aside0.mk (below_step (by repeat (first | (with_reducible first | exact HB.out | apply below_alloc | apply pw_below_drewN | apply below_drew1) | exact HB.out)) hb); clear HB; have HB := n0_; clear n0_; (try clear hb); (try clear hb2); (try clear hk); (try clear hi)) | ((with_reducible refine gate_callee (f := 14) rfl ?_); refine goesL_ (some 22) rfl rfl Try.func14 (by kernel_rfl) rfl #[.int .i64 a0, .string t173] rfl (by (try simp only [List.map_toArray, List.map_cons, List.map_nil]); first | done | rfl | (simp only [List.length_drop, List.length_take]; rfl)) ?_; (with_reducible refine (wire_Number.calls k a0 t173 t175 true _ A6.out).mono ?_); rintro e w24 ⟨rfl, hb⟩; refine ⟨_, rfl, ?_⟩; have n0_ := Aside0.mk (below_step (by repeat (first | (with_reducible first | exact HB.out | apply below_alloc | apply pw_below_drewN | apply below_drew1) | exact HB.out)) hb); clear HB; have HB := n0_; clear n0_; (try clear hb); (try clear hb2); (try clear hk); (try clear hi)) | ((with_reducible refine gate_callee (f := 14) rfl ?_); refine goesL_ (some 27) rfl rfl Try.func14 (by kernel_rfl) rfl #[.int .i64 a0, .string (⟨#[]⟩ : ByteArray)] rfl (by (try simp only [List.map_toArray, List.map_cons, List.map_nil]); first | done | rfl | (simp only [List.length_drop, List.length_take]; rfl)) ?_; (with_reducible refine (wire_Number.calls k a0 (⟨#[]⟩ : ByteArray) t177 false _ A7.out).mono ?_); rintro e w25 ⟨rfl, hb⟩; refine ⟨_, rfl, ?_⟩; have n0_ := Aside0.mk (below_step (by repeat (first | (with_reducible first | exact HB.out | apply below_alloc | apply pw_below_drewN | apply below_drew1) | exact HB.out)) hb); clear HB; have HB := n0_; clear n0_; (try clear hb); (try clear hb2); (try clear hk); (try clear hi)) | (go_at_call 18; (with_reducible refine (spindlelaw08_alive.calls k  t180 _ A21.out).mono ?_); rintro e w26 ⟨rfl, hb⟩; have n0_ := Aside0.mk (below_step (by repeat (first | (with_reducible first | exact HB.out | apply below_alloc | apply pw_below_drewN | apply below_drew1) | exact HB.out)) hb); clear HB; have HB := n0_; clear n0_; (try clear hb); (try clear hb2); (try clear hk); (try clear hi)))
                go_ret
                exact ⟨by first | rfl | (simp [errW_none, errW_some] <;> rfl) | (simp [*, errW_none, errW_some] <;> rfl) | (exfalso; simp_all; done), by repeat (first | (with_reducible first | exact HB.out | apply below_alloc | apply pw_below_drewN | apply below_drew1) | exact HB.out)⟩
            · rw [if_neg c13] at H
              have c13b0 : decide (1 ≤ a0) = false := decide_eq_false c13
              clear c13
              replace H := Option.bind_eq_some_iff.mp H
              obtain ⟨t181, A270, H⟩ := H
              replace H : (some t181) = some r := H
              have A27 := Aside0.mk A270
              clear A270
              obtain rfl := Option.some.inj H
              go_enter Try.func5, Try.ntmps5
              go_wp2_with (first | ((with_reducible refine gate_callee (f := 16) rfl ?_); refine goesL_ (some 15) rfl rfl Try.func16 (by kernel_rfl) rfl #[.int .i64 a0, .int .u32 a1] rfl (by (try simp only [List.map_toArray, List.map_cons, List.map_nil]); first | done | rfl | (simp only [List.length_drop, List.length_take]; rfl)) ?_; (with_reducible refine (wire_Name.calls k a0 a1 t173 _ A4.out).mono ?_); rintro e w28 ⟨rfl, hb⟩; refine ⟨_, rfl, ?_⟩; have n0_ := Aside0.mk (below_step (by repeat (first | (with_reducible first | exact HB.out | apply below_alloc | apply pw_below_drewN | apply below_drew1) | exact HB.out)) hb); clear HB; have HB := n0_; clear n0_; (try clear hb); (try clear hb2); (try clear hk); (try clear hi)) | ((with_reducible refine gate_callee (f := 16) rfl ?_); refine goesL_ (some 18) rfl rfl Try.func16 (by kernel_rfl) rfl #[.int .i64 a0, .int .u32 a2] rfl (by (try simp only [List.map_toArray, List.map_cons, List.map_nil]); first | done | rfl | (simp only [List.length_drop, List.length_take]; rfl)) ?_; (with_reducible refine (wire_Name.calls k a0 a2 t174 _ A5.out).mono ?_); rintro e w29 ⟨rfl, hb⟩; refine ⟨_, rfl, ?_⟩; have n0_ := Aside0.mk (below_step (by repeat (first | (with_reducible first | exact HB.out | apply below_alloc | apply pw_below_drewN | apply below_drew1) | exact HB.out)) hb); clear HB; have HB := n0_; clear n0_; (try clear hb); (try clear hb2); (try clear hk); (try clear hi)) | ((with_reducible refine gate_callee (f := 14) rfl ?_); refine goesL_ (some 22) rfl rfl Try.func14 (by kernel_rfl) rfl #[.int .i64 a0, .string t173] rfl (by (try simp only [List.map_toArray, List.map_cons, List.map_nil]); first | done | rfl | (simp only [List.length_drop, List.length_take]; rfl)) ?_; (with_reducible refine (wire_Number.calls k a0 t173 t175 true _ A6.out).mono ?_); rintro e w30 ⟨rfl, hb⟩; refine ⟨_, rfl, ?_⟩; have n0_ := Aside0.mk (below_step (by repeat (first | (with_reducible first | exact HB.out | apply below_alloc | apply pw_below_drewN | apply below_drew1) | exact HB.out)) hb); clear HB; have HB := n0_; clear n0_; (try clear hb); (try clear hb2); (try clear hk); (try clear hi)) | ((with_reducible refine gate_callee (f := 14) rfl ?_); refine goesL_ (some 27) rfl rfl Try.func14 (by kernel_rfl) rfl #[.int .i64 a0, .string (⟨#[]⟩ : ByteArray)] rfl (by (try simp only [List.map_toArray, List.map_cons, List.map_nil]); first | done | rfl | (simp only [List.length_drop, List.length_take]; rfl)) ?_; (with_reducible refine (wire_Number.calls k a0 (⟨#[]⟩ : ByteArray) t177 false _ A7.out).mono ?_); rintro e w31 ⟨rfl, hb⟩; refine ⟨_, rfl, ?_⟩; have n0_ := Aside0.mk (below_step (by repeat (first | (with_reducible first | exact HB.out | apply below_alloc | apply pw_below_drewN | apply below_drew1) | exact HB.out)) hb); clear HB; have HB := n0_; clear n0_; (try clear hb); (try clear hb2); (try clear hk); (try clear hi)) | (go_at_call 18; (with_reducible refine (spindlelaw08_alive.calls k  t181 _ A27.out).mono ?_); rintro e w32 ⟨rfl, hb⟩; have n0_ := Aside0.mk (below_step (by repeat (first | (with_reducible first | exact HB.out | apply below_alloc | apply pw_below_drewN | apply below_drew1) | exact HB.out)) hb); clear HB; have HB := n0_; clear n0_; (try clear hb); (try clear hb2); (try clear hk); (try clear hi)))
              go_ret
              exact ⟨by first | rfl | (simp [errW_none, errW_some] <;> rfl) | (simp [*, errW_none, errW_some] <;> rfl) | (exfalso; simp_all; done), by repeat (first | (with_reducible first | exact HB.out | apply below_alloc | apply pw_below_drewN | apply below_drew1) | exact HB.out)⟩
          · rw [if_neg c12] at H
            have c12b0 : (t173.toList == ([] : List UInt8)) = false := beq_eq_false_iff_ne.mpr c12
            have c12b1 : (t173.toList != ([] : List UInt8)) = true := bne_iff_ne.mpr c12
            by_cases c33 : a1 = a2
            · rw [if_pos c33] at H
              have c33b0 : (a1 == a2) = true := beq_iff_eq.mpr c33
              have c33b1 : (a1 != a2) = false := bne_eq_false_iff_eq.mpr c33
              clear c33
              by_cases c34 : a0 ≥ 1
              · rw [if_pos c34] at H
                have c34b0 : decide (1 ≤ a0) = true := decide_eq_true c34
                clear c34
                by_cases c35 : a0 ≤ 7
                · rw [if_pos c35] at H
                  have c35b0 : decide (a0 ≤ 7) = true := decide_eq_true c35
                  clear c35
                  replace H := Option.bind_eq_some_iff.mp H
                  obtain ⟨t182, A360, H⟩ := H
                  replace H : (some t182) = some r := H
                  have A36 := Aside0.mk A360
                  clear A360
                  obtain rfl := Option.some.inj H
                  go_enter Try.func5, Try.ntmps5
                  go_wp2_with (first | ((with_reducible refine gate_callee (f := 16) rfl ?_); refine goesL_ (some 15) rfl rfl Try.func16 (by kernel_rfl) rfl #[.int .i64 a0, .int .u32 a1] rfl (by (try simp only [List.map_toArray, List.map_cons, List.map_nil]); first | done | rfl | (simp only [List.length_drop, List.length_take]; rfl)) ?_; (with_reducible refine (wire_Name.calls k a0 a1 t173 _ A4.out).mono ?_); rintro e w37 ⟨rfl, hb⟩; refine ⟨_, rfl, ?_⟩; have n0_ := Aside0.mk (below_step (by repeat (first | (with_reducible first | exact HB.out | apply below_alloc | apply pw_below_drewN | apply below_drew1) | exact HB.out)) hb); clear HB; have HB := n0_; clear n0_; (try clear hb); (try clear hb2); (try clear hk); (try clear hi)) | ((with_reducible refine gate_callee (f := 16) rfl ?_); refine goesL_ (some 18) rfl rfl Try.func16 (by kernel_rfl) rfl #[.int .i64 a0, .int .u32 a2] rfl (by (try simp only [List.map_toArray, List.map_cons, List.map_nil]); first | done | rfl | (simp only [List.length_drop, List.length_take]; rfl)) ?_; (with_reducible refine (wire_Name.calls k a0 a2 t174 _ A5.out).mono ?_); rintro e w38 ⟨rfl, hb⟩; refine ⟨_, rfl, ?_⟩; have n0_ := Aside0.mk (below_step (by repeat (first | (with_reducible first | exact HB.out | apply below_alloc | apply pw_below_drewN | apply below_drew1) | exact HB.out)) hb); clear HB; have HB := n0_; clear n0_; (try clear hb); (try clear hb2); (try clear hk); (try clear hi)) | ((with_reducible refine gate_callee (f := 14) rfl ?_); refine goesL_ (some 22) rfl rfl Try.func14 (by kernel_rfl) rfl #[.int .i64 a0, .string t173] rfl (by (try simp only [List.map_toArray, List.map_cons, List.map_nil]); first | done | rfl | (simp only [List.length_drop, List.length_take]; rfl)) ?_; (with_reducible refine (wire_Number.calls k a0 t173 t175 true _ A6.out).mono ?_); rintro e w39 ⟨rfl, hb⟩; refine ⟨_, rfl, ?_⟩; have n0_ := Aside0.mk (below_step (by repeat (first | (with_reducible first | exact HB.out | apply below_alloc | apply pw_below_drewN | apply below_drew1) | exact HB.out)) hb); clear HB; have HB := n0_; clear n0_; (try clear hb); (try clear hb2); (try clear hk); (try clear hi)) | ((with_reducible refine gate_callee (f := 14) rfl ?_); refine goesL_ (some 27) rfl rfl Try.func14 (by kernel_rfl) rfl #[.int .i64 a0, .string (⟨#[]⟩ : ByteArray)] rfl (by (try simp only [List.map_toArray, List.map_cons, List.map_nil]); first | done | rfl | (simp only [List.length_drop, List.length_take]; rfl)) ?_; (with_reducible refine (wire_Number.calls k a0 (⟨#[]⟩ : ByteArray) t177 false _ A7.out).mono ?_); rintro e w40 ⟨rfl, hb⟩; refine ⟨_, rfl, ?_⟩; have n0_ := Aside0.mk (below_step (by repeat (first | (with_reducible first | exact HB.out | apply below_alloc | apply pw_below_drewN | apply below_drew1) | exact HB.out)) hb); clear HB; have HB := n0_; clear n0_; (try clear hb); (try clear hb2); (try clear hk); (try clear hi)) | (go_at_call 18; (with_reducible refine (spindlelaw08_alive.calls k  t182 _ A36.out).mono ?_); rintro e w41 ⟨rfl, hb⟩; have n0_ := Aside0.mk (below_step (by repeat (first | (with_reducible first | exact HB.out | apply below_alloc | apply pw_below_drewN | apply below_drew1) | exact HB.out)) hb); clear HB; have HB := n0_; clear n0_; (try clear hb); (try clear hb2); (try clear hk); (try clear hi)))
                  go_ret
                  exact ⟨by first | rfl | (simp [errW_none, errW_some] <;> rfl) | (simp [*, errW_none, errW_some] <;> rfl) | (exfalso; simp_all; done), by repeat (first | (with_reducible first | exact HB.out | apply below_alloc | apply pw_below_drewN | apply below_drew1) | exact HB.out)⟩
                · rw [if_neg c35] at H
                  have c35b0 : decide (a0 ≤ 7) = false := decide_eq_false c35
                  clear c35
                  obtain rfl := Option.some.inj H
                  exact absurd HRT.out (by decide)
              · rw [if_neg c34] at H
                have c34b0 : decide (1 ≤ a0) = false := decide_eq_false c34
                clear c34
                obtain rfl := Option.some.inj H
                exact absurd HRT.out (by decide)
            · rw [if_neg c33] at H
              have c33b0 : (a1 == a2) = false := beq_eq_false_iff_ne.mpr c33
              have c33b1 : (a1 != a2) = true := bne_iff_ne.mpr c33
              by_cases c42 : t173.toList = t174.toList
              · rw [if_pos c42] at H
                have c42b0 : (t173.toList == t174.toList) = true := beq_iff_eq.mpr c42
                have c42b1 : (t173.toList != t174.toList) = false := bne_eq_false_iff_eq.mpr c42
                clear c42
                obtain rfl := Option.some.inj H
                exact absurd HRT.out (by decide)
              · rw [if_neg c42] at H
                have c42b0 : (t173.toList == t174.toList) = false := beq_eq_false_iff_ne.mpr c42
                have c42b1 : (t173.toList != t174.toList) = true := bne_iff_ne.mpr c42
                by_cases c43 : a0 ≥ 1
                · rw [if_pos c43] at H
                  have c43b0 : decide (1 ≤ a0) = true := decide_eq_true c43
                  clear c43
                  by_cases c44 : a0 ≤ 7
                  · rw [if_pos c44] at H
                    have c44b0 : decide (a0 ≤ 7) = true := decide_eq_true c44
                    clear c44
                    replace H := Option.bind_eq_some_iff.mp H
                    obtain ⟨t183, A450, H⟩ := H
                    replace H : (some t183) = some r := H
                    have A45 := Aside0.mk A450
                    clear A450
                    obtain rfl := Option.some.inj H
                    go_enter Try.func5, Try.ntmps5
                    go_wp2_with (first | ((with_reducible refine gate_callee (f := 16) rfl ?_); refine goesL_ (some 15) rfl rfl Try.func16 (by kernel_rfl) rfl #[.int .i64 a0, .int .u32 a1] rfl (by (try simp only [List.map_toArray, List.map_cons, List.map_nil]); first | done | rfl | (simp only [List.length_drop, List.length_take]; rfl)) ?_; (with_reducible refine (wire_Name.calls k a0 a1 t173 _ A4.out).mono ?_); rintro e w46 ⟨rfl, hb⟩; refine ⟨_, rfl, ?_⟩; have n0_ := Aside0.mk (below_step (by repeat (first | (with_reducible first | exact HB.out | apply below_alloc | apply pw_below_drewN | apply below_drew1) | exact HB.out)) hb); clear HB; have HB := n0_; clear n0_; (try clear hb); (try clear hb2); (try clear hk); (try clear hi)) | ((with_reducible refine gate_callee (f := 16) rfl ?_); refine goesL_ (some 18) rfl rfl Try.func16 (by kernel_rfl) rfl #[.int .i64 a0, .int .u32 a2] rfl (by (try simp only [List.map_toArray, List.map_cons, List.map_nil]); first | done | rfl | (simp only [List.length_drop, List.length_take]; rfl)) ?_; (with_reducible refine (wire_Name.calls k a0 a2 t174 _ A5.out).mono ?_); rintro e w47 ⟨rfl, hb⟩; refine ⟨_, rfl, ?_⟩; have n0_ := Aside0.mk (below_step (by repeat (first | (with_reducible first | exact HB.out | apply below_alloc | apply pw_below_drewN | apply below_drew1) | exact HB.out)) hb); clear HB; have HB := n0_; clear n0_; (try clear hb); (try clear hb2); (try clear hk); (try clear hi)) | ((with_reducible refine gate_callee (f := 14) rfl ?_); refine goesL_ (some 22) rfl rfl Try.func14 (by kernel_rfl) rfl #[.int .i64 a0, .string t173] rfl (by (try simp only [List.map_toArray, List.map_cons, List.map_nil]); first | done | rfl | (simp only [List.length_drop, List.length_take]; rfl)) ?_; (with_reducible refine (wire_Number.calls k a0 t173 t175 true _ A6.out).mono ?_); rintro e w48 ⟨rfl, hb⟩; refine ⟨_, rfl, ?_⟩; have n0_ := Aside0.mk (below_step (by repeat (first | (with_reducible first | exact HB.out | apply below_alloc | apply pw_below_drewN | apply below_drew1) | exact HB.out)) hb); clear HB; have HB := n0_; clear n0_; (try clear hb); (try clear hb2); (try clear hk); (try clear hi)) | ((with_reducible refine gate_callee (f := 14) rfl ?_); refine goesL_ (some 27) rfl rfl Try.func14 (by kernel_rfl) rfl #[.int .i64 a0, .string (⟨#[]⟩ : ByteArray)] rfl (by (try simp only [List.map_toArray, List.map_cons, List.map_nil]); first | done | rfl | (simp only [List.length_drop, List.length_take]; rfl)) ?_; (with_reducible refine (wire_Number.calls k a0 (⟨#[]⟩ : ByteArray) t177 false _ A7.out).mono ?_); rintro e w49 ⟨rfl, hb⟩; refine ⟨_, rfl, ?_⟩; have n0_ := Aside0.mk (below_step (by repeat (first | (with_reducible first | exact HB.out | apply below_alloc | apply pw_below_drewN | apply below_drew1) | exact HB.out)) hb); clear HB; have HB := n0_; clear n0_; (try clear hb); (try clear hb2); (try clear hk); (try clear hi)) | (go_at_call 18; (with_reducible refine (spindlelaw08_alive.calls k  t183 _ A45.out).mono ?_); rintro e w50 ⟨rfl, hb⟩; have n0_ := Aside0.mk (below_step (by repeat (first | (with_reducible first | exact HB.out | apply below_alloc | apply pw_below_drewN | apply below_drew1) | exact HB.out)) hb); clear HB; have HB := n0_; clear n0_; (try clear hb); (try clear hb2); (try clear hk); (try clear hi)))
                    go_ret
                    exact ⟨by first | rfl | (simp [errW_none, errW_some] <;> rfl) | (simp [*, errW_none, errW_some] <;> rfl) | (exfalso; simp_all; done), by repeat (first | (with_reducible first | exact HB.out | apply below_alloc | apply pw_below_drewN | apply below_drew1) | exact HB.out)⟩
                  · rw [if_neg c44] at H
                    have c44b0 : decide (a0 ≤ 7) = false := decide_eq_false c44
                    clear c44
                    obtain rfl := Option.some.inj H
                    exact absurd HRT.out (by decide)
                · rw [if_neg c43] at H
                  have c43b0 : decide (1 ≤ a0) = false := decide_eq_false c43
                  clear c43
                  obtain rfl := Option.some.inj H
                  exact absurd HRT.out (by decide)
        · rw [if_neg c11] at H
          have c11b0 : (t175 == a1) = false := beq_eq_false_iff_ne.mpr c11
          have c11b1 : (t175 != a1) = true := bne_iff_ne.mpr c11
          obtain rfl := Option.some.inj H
          exact absurd HRT.out (by decide)
      · replace c10 := Bool.eq_false_iff.mpr c10
        subst c10
        have H1 : (if t173.toList = ([] : List UInt8) then (if a0 ≥ 1 then (if a0 ≤ 7 then ((spindlelaw08_alive.f k).bind fun t184 => (some t184)) else ((spindlelaw08_alive.f k).bind fun t185 => (some t185))) else ((spindlelaw08_alive.f k).bind fun t186 => (some t186))) else (if a1 = a2 then (if a0 ≥ 1 then (if a0 ≤ 7 then ((spindlelaw08_alive.f k).bind fun t187 => (some t187)) else (some false)) else (some false)) else (if t173.toList = t174.toList then (some false) else (if a0 ≥ 1 then (if a0 ≤ 7 then ((spindlelaw08_alive.f k).bind fun t188 => (some t188)) else (some false)) else (some false))))) = some r := by rw [if_neg (show ¬ (false = true) by decide)] at H; exact H
        clear H
        have H := H1
        clear H1
        by_cases c51 : t173.toList = ([] : List UInt8)
        · rw [if_pos c51] at H
          have c51b0 : (t173.toList == ([] : List UInt8)) = true := beq_iff_eq.mpr c51
          have c51b1 : (t173.toList != ([] : List UInt8)) = false := bne_eq_false_iff_eq.mpr c51
          clear c51
          by_cases c52 : a0 ≥ 1
          · rw [if_pos c52] at H
            have c52b0 : decide (1 ≤ a0) = true := decide_eq_true c52
            clear c52
            by_cases c53 : a0 ≤ 7
            · rw [if_pos c53] at H
              have c53b0 : decide (a0 ≤ 7) = true := decide_eq_true c53
              clear c53
              replace H := Option.bind_eq_some_iff.mp H
              obtain ⟨t184, A540, H⟩ := H
              replace H : (some t184) = some r := H
              have A54 := Aside0.mk A540
              clear A540
              obtain rfl := Option.some.inj H
              go_enter Try.func5, Try.ntmps5
              go_wp2_with (first | ((with_reducible refine gate_callee (f := 16) rfl ?_); refine goesL_ (some 15) rfl rfl Try.func16 (by kernel_rfl) rfl #[.int .i64 a0, .int .u32 a1] rfl (by (try simp only [List.map_toArray, List.map_cons, List.map_nil]); first | done | rfl | (simp only [List.length_drop, List.length_take]; rfl)) ?_; (with_reducible refine (wire_Name.calls k a0 a1 t173 _ A4.out).mono ?_); rintro e w55 ⟨rfl, hb⟩; refine ⟨_, rfl, ?_⟩; have n0_ := Aside0.mk (below_step (by repeat (first | (with_reducible first | exact HB.out | apply below_alloc | apply pw_below_drewN | apply below_drew1) | exact HB.out)) hb); clear HB; have HB := n0_; clear n0_; (try clear hb); (try clear hb2); (try clear hk); (try clear hi)) | ((with_reducible refine gate_callee (f := 16) rfl ?_); refine goesL_ (some 18) rfl rfl Try.func16 (by kernel_rfl) rfl #[.int .i64 a0, .int .u32 a2] rfl (by (try simp only [List.map_toArray, List.map_cons, List.map_nil]); first | done | rfl | (simp only [List.length_drop, List.length_take]; rfl)) ?_; (with_reducible refine (wire_Name.calls k a0 a2 t174 _ A5.out).mono ?_); rintro e w56 ⟨rfl, hb⟩; refine ⟨_, rfl, ?_⟩; have n0_ := Aside0.mk (below_step (by repeat (first | (with_reducible first | exact HB.out | apply below_alloc | apply pw_below_drewN | apply below_drew1) | exact HB.out)) hb); clear HB; have HB := n0_; clear n0_; (try clear hb); (try clear hb2); (try clear hk); (try clear hi)) | ((with_reducible refine gate_callee (f := 14) rfl ?_); refine goesL_ (some 22) rfl rfl Try.func14 (by kernel_rfl) rfl #[.int .i64 a0, .string t173] rfl (by (try simp only [List.map_toArray, List.map_cons, List.map_nil]); first | done | rfl | (simp only [List.length_drop, List.length_take]; rfl)) ?_; (with_reducible refine (wire_Number.calls k a0 t173 t175 false _ A6.out).mono ?_); rintro e w57 ⟨rfl, hb⟩; refine ⟨_, rfl, ?_⟩; have n0_ := Aside0.mk (below_step (by repeat (first | (with_reducible first | exact HB.out | apply below_alloc | apply pw_below_drewN | apply below_drew1) | exact HB.out)) hb); clear HB; have HB := n0_; clear n0_; (try clear hb); (try clear hb2); (try clear hk); (try clear hi)) | ((with_reducible refine gate_callee (f := 14) rfl ?_); refine goesL_ (some 27) rfl rfl Try.func14 (by kernel_rfl) rfl #[.int .i64 a0, .string (⟨#[]⟩ : ByteArray)] rfl (by (try simp only [List.map_toArray, List.map_cons, List.map_nil]); first | done | rfl | (simp only [List.length_drop, List.length_take]; rfl)) ?_; (with_reducible refine (wire_Number.calls k a0 (⟨#[]⟩ : ByteArray) t177 false _ A7.out).mono ?_); rintro e w58 ⟨rfl, hb⟩; refine ⟨_, rfl, ?_⟩; have n0_ := Aside0.mk (below_step (by repeat (first | (with_reducible first | exact HB.out | apply below_alloc | apply pw_below_drewN | apply below_drew1) | exact HB.out)) hb); clear HB; have HB := n0_; clear n0_; (try clear hb); (try clear hb2); (try clear hk); (try clear hi)) | (go_at_call 18; (with_reducible refine (spindlelaw08_alive.calls k  t184 _ A54.out).mono ?_); rintro e w59 ⟨rfl, hb⟩; have n0_ := Aside0.mk (below_step (by repeat (first | (with_reducible first | exact HB.out | apply below_alloc | apply pw_below_drewN | apply below_drew1) | exact HB.out)) hb); clear HB; have HB := n0_; clear n0_; (try clear hb); (try clear hb2); (try clear hk); (try clear hi)))
              go_ret
              exact ⟨by first | rfl | (simp [errW_none, errW_some] <;> rfl) | (simp [*, errW_none, errW_some] <;> rfl) | (exfalso; simp_all; done), by repeat (first | (with_reducible first | exact HB.out | apply below_alloc | apply pw_below_drewN | apply below_drew1) | exact HB.out)⟩
            · rw [if_neg c53] at H
              have c53b0 : decide (a0 ≤ 7) = false := decide_eq_false c53
              clear c53
              replace H := Option.bind_eq_some_iff.mp H
              obtain ⟨t185, A600, H⟩ := H
              replace H : (some t185) = some r := H
              have A60 := Aside0.mk A600
              clear A600
              obtain rfl := Option.some.inj H
              go_enter Try.func5, Try.ntmps5
              go_wp2_with (first | ((with_reducible refine gate_callee (f := 16) rfl ?_); refine goesL_ (some 15) rfl rfl Try.func16 (by kernel_rfl) rfl #[.int .i64 a0, .int .u32 a1] rfl (by (try simp only [List.map_toArray, List.map_cons, List.map_nil]); first | done | rfl | (simp only [List.length_drop, List.length_take]; rfl)) ?_; (with_reducible refine (wire_Name.calls k a0 a1 t173 _ A4.out).mono ?_); rintro e w61 ⟨rfl, hb⟩; refine ⟨_, rfl, ?_⟩; have n0_ := Aside0.mk (below_step (by repeat (first | (with_reducible first | exact HB.out | apply below_alloc | apply pw_below_drewN | apply below_drew1) | exact HB.out)) hb); clear HB; have HB := n0_; clear n0_; (try clear hb); (try clear hb2); (try clear hk); (try clear hi)) | ((with_reducible refine gate_callee (f := 16) rfl ?_); refine goesL_ (some 18) rfl rfl Try.func16 (by kernel_rfl) rfl #[.int .i64 a0, .int .u32 a2] rfl (by (try simp only [List.map_toArray, List.map_cons, List.map_nil]); first | done | rfl | (simp only [List.length_drop, List.length_take]; rfl)) ?_; (with_reducible refine (wire_Name.calls k a0 a2 t174 _ A5.out).mono ?_); rintro e w62 ⟨rfl, hb⟩; refine ⟨_, rfl, ?_⟩; have n0_ := Aside0.mk (below_step (by repeat (first | (with_reducible first | exact HB.out | apply below_alloc | apply pw_below_drewN | apply below_drew1) | exact HB.out)) hb); clear HB; have HB := n0_; clear n0_; (try clear hb); (try clear hb2); (try clear hk); (try clear hi)) | ((with_reducible refine gate_callee (f := 14) rfl ?_); refine goesL_ (some 22) rfl rfl Try.func14 (by kernel_rfl) rfl #[.int .i64 a0, .string t173] rfl (by (try simp only [List.map_toArray, List.map_cons, List.map_nil]); first | done | rfl | (simp only [List.length_drop, List.length_take]; rfl)) ?_; (with_reducible refine (wire_Number.calls k a0 t173 t175 false _ A6.out).mono ?_); rintro e w63 ⟨rfl, hb⟩; refine ⟨_, rfl, ?_⟩; have n0_ := Aside0.mk (below_step (by repeat (first | (with_reducible first | exact HB.out | apply below_alloc | apply pw_below_drewN | apply below_drew1) | exact HB.out)) hb); clear HB; have HB := n0_; clear n0_; (try clear hb); (try clear hb2); (try clear hk); (try clear hi)) | ((with_reducible refine gate_callee (f := 14) rfl ?_); refine goesL_ (some 27) rfl rfl Try.func14 (by kernel_rfl) rfl #[.int .i64 a0, .string (⟨#[]⟩ : ByteArray)] rfl (by (try simp only [List.map_toArray, List.map_cons, List.map_nil]); first | done | rfl | (simp only [List.length_drop, List.length_take]; rfl)) ?_; (with_reducible refine (wire_Number.calls k a0 (⟨#[]⟩ : ByteArray) t177 false _ A7.out).mono ?_); rintro e w64 ⟨rfl, hb⟩; refine ⟨_, rfl, ?_⟩; have n0_ := Aside0.mk (below_step (by repeat (first | (with_reducible first | exact HB.out | apply below_alloc | apply pw_below_drewN | apply below_drew1) | exact HB.out)) hb); clear HB; have HB := n0_; clear n0_; (try clear hb); (try clear hb2); (try clear hk); (try clear hi)) | (go_at_call 18; (with_reducible refine (spindlelaw08_alive.calls k  t185 _ A60.out).mono ?_); rintro e w65 ⟨rfl, hb⟩; have n0_ := Aside0.mk (below_step (by repeat (first | (with_reducible first | exact HB.out | apply below_alloc | apply pw_below_drewN | apply below_drew1) | exact HB.out)) hb); clear HB; have HB := n0_; clear n0_; (try clear hb); (try clear hb2); (try clear hk); (try clear hi)))
              go_ret
              exact ⟨by first | rfl | (simp [errW_none, errW_some] <;> rfl) | (simp [*, errW_none, errW_some] <;> rfl) | (exfalso; simp_all; done), by repeat (first | (with_reducible first | exact HB.out | apply below_alloc | apply pw_below_drewN | apply below_drew1) | exact HB.out)⟩
          · rw [if_neg c52] at H
            have c52b0 : decide (1 ≤ a0) = false := decide_eq_false c52
            clear c52
            replace H := Option.bind_eq_some_iff.mp H
            obtain ⟨t186, A660, H⟩ := H
            replace H : (some t186) = some r := H
            have A66 := Aside0.mk A660
            clear A660
            obtain rfl := Option.some.inj H
            go_enter Try.func5, Try.ntmps5
            go_wp2_with (first | ((with_reducible refine gate_callee (f := 16) rfl ?_); refine goesL_ (some 15) rfl rfl Try.func16 (by kernel_rfl) rfl #[.int .i64 a0, .int .u32 a1] rfl (by (try simp only [List.map_toArray, List.map_cons, List.map_nil]); first | done | rfl | (simp only [List.length_drop, List.length_take]; rfl)) ?_; (with_reducible refine (wire_Name.calls k a0 a1 t173 _ A4.out).mono ?_); rintro e w67 ⟨rfl, hb⟩; refine ⟨_, rfl, ?_⟩; have n0_ := Aside0.mk (below_step (by repeat (first | (with_reducible first | exact HB.out | apply below_alloc | apply pw_below_drewN | apply below_drew1) | exact HB.out)) hb); clear HB; have HB := n0_; clear n0_; (try clear hb); (try clear hb2); (try clear hk); (try clear hi)) | ((with_reducible refine gate_callee (f := 16) rfl ?_); refine goesL_ (some 18) rfl rfl Try.func16 (by kernel_rfl) rfl #[.int .i64 a0, .int .u32 a2] rfl (by (try simp only [List.map_toArray, List.map_cons, List.map_nil]); first | done | rfl | (simp only [List.length_drop, List.length_take]; rfl)) ?_; (with_reducible refine (wire_Name.calls k a0 a2 t174 _ A5.out).mono ?_); rintro e w68 ⟨rfl, hb⟩; refine ⟨_, rfl, ?_⟩; have n0_ := Aside0.mk (below_step (by repeat (first | (with_reducible first | exact HB.out | apply below_alloc | apply pw_below_drewN | apply below_drew1) | exact HB.out)) hb); clear HB; have HB := n0_; clear n0_; (try clear hb); (try clear hb2); (try clear hk); (try clear hi)) | ((with_reducible refine gate_callee (f := 14) rfl ?_); refine goesL_ (some 22) rfl rfl Try.func14 (by kernel_rfl) rfl #[.int .i64 a0, .string t173] rfl (by (try simp only [List.map_toArray, List.map_cons, List.map_nil]); first | done | rfl | (simp only [List.length_drop, List.length_take]; rfl)) ?_; (with_reducible refine (wire_Number.calls k a0 t173 t175 false _ A6.out).mono ?_); rintro e w69 ⟨rfl, hb⟩; refine ⟨_, rfl, ?_⟩; have n0_ := Aside0.mk (below_step (by repeat (first | (with_reducible first | exact HB.out | apply below_alloc | apply pw_below_drewN | apply below_drew1) | exact HB.out)) hb); clear HB; have HB := n0_; clear n0_; (try clear hb); (try clear hb2); (try clear hk); (try clear hi)) | ((with_reducible refine gate_callee (f := 14) rfl ?_); refine goesL_ (some 27) rfl rfl Try.func14 (by kernel_rfl) rfl #[.int .i64 a0, .string (⟨#[]⟩ : ByteArray)] rfl (by (try simp only [List.map_toArray, List.map_cons, List.map_nil]); first | done | rfl | (simp only [List.length_drop, List.length_take]; rfl)) ?_; (with_reducible refine (wire_Number.calls k a0 (⟨#[]⟩ : ByteArray) t177 false _ A7.out).mono ?_); rintro e w70 ⟨rfl, hb⟩; refine ⟨_, rfl, ?_⟩; have n0_ := Aside0.mk (below_step (by repeat (first | (with_reducible first | exact HB.out | apply below_alloc | apply pw_below_drewN | apply below_drew1) | exact HB.out)) hb); clear HB; have HB := n0_; clear n0_; (try clear hb); (try clear hb2); (try clear hk); (try clear hi)) | (go_at_call 18; (with_reducible refine (spindlelaw08_alive.calls k  t186 _ A66.out).mono ?_); rintro e w71 ⟨rfl, hb⟩; have n0_ := Aside0.mk (below_step (by repeat (first | (with_reducible first | exact HB.out | apply below_alloc | apply pw_below_drewN | apply below_drew1) | exact HB.out)) hb); clear HB; have HB := n0_; clear n0_; (try clear hb); (try clear hb2); (try clear hk); (try clear hi)))
            go_ret
            exact ⟨by first | rfl | (simp [errW_none, errW_some] <;> rfl) | (simp [*, errW_none, errW_some] <;> rfl) | (exfalso; simp_all; done), by repeat (first | (with_reducible first | exact HB.out | apply below_alloc | apply pw_below_drewN | apply below_drew1) | exact HB.out)⟩
        · rw [if_neg c51] at H
          have c51b0 : (t173.toList == ([] : List UInt8)) = false := beq_eq_false_iff_ne.mpr c51
          have c51b1 : (t173.toList != ([] : List UInt8)) = true := bne_iff_ne.mpr c51
          by_cases c72 : a1 = a2
          · rw [if_pos c72] at H
            have c72b0 : (a1 == a2) = true := beq_iff_eq.mpr c72
            have c72b1 : (a1 != a2) = false := bne_eq_false_iff_eq.mpr c72
            clear c72
            by_cases c73 : a0 ≥ 1
            · rw [if_pos c73] at H
              have c73b0 : decide (1 ≤ a0) = true := decide_eq_true c73
              clear c73
              by_cases c74 : a0 ≤ 7
              · rw [if_pos c74] at H
                have c74b0 : decide (a0 ≤ 7) = true := decide_eq_true c74
                clear c74
                replace H := Option.bind_eq_some_iff.mp H
                obtain ⟨t187, A750, H⟩ := H
                replace H : (some t187) = some r := H
                have A75 := Aside0.mk A750
                clear A750
                obtain rfl := Option.some.inj H
                go_enter Try.func5, Try.ntmps5
                go_wp2_with (first | ((with_reducible refine gate_callee (f := 16) rfl ?_); refine goesL_ (some 15) rfl rfl Try.func16 (by kernel_rfl) rfl #[.int .i64 a0, .int .u32 a1] rfl (by (try simp only [List.map_toArray, List.map_cons, List.map_nil]); first | done | rfl | (simp only [List.length_drop, List.length_take]; rfl)) ?_; (with_reducible refine (wire_Name.calls k a0 a1 t173 _ A4.out).mono ?_); rintro e w76 ⟨rfl, hb⟩; refine ⟨_, rfl, ?_⟩; have n0_ := Aside0.mk (below_step (by repeat (first | (with_reducible first | exact HB.out | apply below_alloc | apply pw_below_drewN | apply below_drew1) | exact HB.out)) hb); clear HB; have HB := n0_; clear n0_; (try clear hb); (try clear hb2); (try clear hk); (try clear hi)) | ((with_reducible refine gate_callee (f := 16) rfl ?_); refine goesL_ (some 18) rfl rfl Try.func16 (by kernel_rfl) rfl #[.int .i64 a0, .int .u32 a2] rfl (by (try simp only [List.map_toArray, List.map_cons, List.map_nil]); first | done | rfl | (simp only [List.length_drop, List.length_take]; rfl)) ?_; (with_reducible refine (wire_Name.calls k a0 a2 t174 _ A5.out).mono ?_); rintro e w77 ⟨rfl, hb⟩; refine ⟨_, rfl, ?_⟩; have n0_ := Aside0.mk (below_step (by repeat (first | (with_reducible first | exact HB.out | apply below_alloc | apply pw_below_drewN | apply below_drew1) | exact HB.out)) hb); clear HB; have HB := n0_; clear n0_; (try clear hb); (try clear hb2); (try clear hk); (try clear hi)) | ((with_reducible refine gate_callee (f := 14) rfl ?_); refine goesL_ (some 22) rfl rfl Try.func14 (by kernel_rfl) rfl #[.int .i64 a0, .string t173] rfl (by (try simp only [List.map_toArray, List.map_cons, List.map_nil]); first | done | rfl | (simp only [List.length_drop, List.length_take]; rfl)) ?_; (with_reducible refine (wire_Number.calls k a0 t173 t175 false _ A6.out).mono ?_); rintro e w78 ⟨rfl, hb⟩; refine ⟨_, rfl, ?_⟩; have n0_ := Aside0.mk (below_step (by repeat (first | (with_reducible first | exact HB.out | apply below_alloc | apply pw_below_drewN | apply below_drew1) | exact HB.out)) hb); clear HB; have HB := n0_; clear n0_; (try clear hb); (try clear hb2); (try clear hk); (try clear hi)) | ((with_reducible refine gate_callee (f := 14) rfl ?_); refine goesL_ (some 27) rfl rfl Try.func14 (by kernel_rfl) rfl #[.int .i64 a0, .string (⟨#[]⟩ : ByteArray)] rfl (by (try simp only [List.map_toArray, List.map_cons, List.map_nil]); first | done | rfl | (simp only [List.length_drop, List.length_take]; rfl)) ?_; (with_reducible refine (wire_Number.calls k a0 (⟨#[]⟩ : ByteArray) t177 false _ A7.out).mono ?_); rintro e w79 ⟨rfl, hb⟩; refine ⟨_, rfl, ?_⟩; have n0_ := Aside0.mk (below_step (by repeat (first | (with_reducible first | exact HB.out | apply below_alloc | apply pw_below_drewN | apply below_drew1) | exact HB.out)) hb); clear HB; have HB := n0_; clear n0_; (try clear hb); (try clear hb2); (try clear hk); (try clear hi)) | (go_at_call 18; (with_reducible refine (spindlelaw08_alive.calls k  t187 _ A75.out).mono ?_); rintro e w80 ⟨rfl, hb⟩; have n0_ := Aside0.mk (below_step (by repeat (first | (with_reducible first | exact HB.out | apply below_alloc | apply pw_below_drewN | apply below_drew1) | exact HB.out)) hb); clear HB; have HB := n0_; clear n0_; (try clear hb); (try clear hb2); (try clear hk); (try clear hi)))
                go_ret
                exact ⟨by first | rfl | (simp [errW_none, errW_some] <;> rfl) | (simp [*, errW_none, errW_some] <;> rfl) | (exfalso; simp_all; done), by repeat (first | (with_reducible first | exact HB.out | apply below_alloc | apply pw_below_drewN | apply below_drew1) | exact HB.out)⟩
              · rw [if_neg c74] at H
                have c74b0 : decide (a0 ≤ 7) = false := decide_eq_false c74
                clear c74
                obtain rfl := Option.some.inj H
                exact absurd HRT.out (by decide)
            · rw [if_neg c73] at H
              have c73b0 : decide (1 ≤ a0) = false := decide_eq_false c73
              clear c73
              obtain rfl := Option.some.inj H
              exact absurd HRT.out (by decide)
          · rw [if_neg c72] at H
            have c72b0 : (a1 == a2) = false := beq_eq_false_iff_ne.mpr c72
            have c72b1 : (a1 != a2) = true := bne_iff_ne.mpr c72
            by_cases c81 : t173.toList = t174.toList
            · rw [if_pos c81] at H
              have c81b0 : (t173.toList == t174.toList) = true := beq_iff_eq.mpr c81
              have c81b1 : (t173.toList != t174.toList) = false := bne_eq_false_iff_eq.mpr c81
              clear c81
              obtain rfl := Option.some.inj H
              exact absurd HRT.out (by decide)
            · rw [if_neg c81] at H
              have c81b0 : (t173.toList == t174.toList) = false := beq_eq_false_iff_ne.mpr c81
              have c81b1 : (t173.toList != t174.toList) = true := bne_iff_ne.mpr c81
              by_cases c82 : a0 ≥ 1
              · rw [if_pos c82] at H
                have c82b0 : decide (1 ≤ a0) = true := decide_eq_true c82
                clear c82
                by_cases c83 : a0 ≤ 7
                · rw [if_pos c83] at H
                  have c83b0 : decide (a0 ≤ 7) = true := decide_eq_true c83
                  clear c83
                  replace H := Option.bind_eq_some_iff.mp H
                  obtain ⟨t188, A840, H⟩ := H
                  replace H : (some t188) = some r := H
                  have A84 := Aside0.mk A840
                  clear A840
                  obtain rfl := Option.some.inj H
                  go_enter Try.func5, Try.ntmps5
                  go_wp2_with (first | ((with_reducible refine gate_callee (f := 16) rfl ?_); refine goesL_ (some 15) rfl rfl Try.func16 (by kernel_rfl) rfl #[.int .i64 a0, .int .u32 a1] rfl (by (try simp only [List.map_toArray, List.map_cons, List.map_nil]); first | done | rfl | (simp only [List.length_drop, List.length_take]; rfl)) ?_; (with_reducible refine (wire_Name.calls k a0 a1 t173 _ A4.out).mono ?_); rintro e w85 ⟨rfl, hb⟩; refine ⟨_, rfl, ?_⟩; have n0_ := Aside0.mk (below_step (by repeat (first | (with_reducible first | exact HB.out | apply below_alloc | apply pw_below_drewN | apply below_drew1) | exact HB.out)) hb); clear HB; have HB := n0_; clear n0_; (try clear hb); (try clear hb2); (try clear hk); (try clear hi)) | ((with_reducible refine gate_callee (f := 16) rfl ?_); refine goesL_ (some 18) rfl rfl Try.func16 (by kernel_rfl) rfl #[.int .i64 a0, .int .u32 a2] rfl (by (try simp only [List.map_toArray, List.map_cons, List.map_nil]); first | done | rfl | (simp only [List.length_drop, List.length_take]; rfl)) ?_; (with_reducible refine (wire_Name.calls k a0 a2 t174 _ A5.out).mono ?_); rintro e w86 ⟨rfl, hb⟩; refine ⟨_, rfl, ?_⟩; have n0_ := Aside0.mk (below_step (by repeat (first | (with_reducible first | exact HB.out | apply below_alloc | apply pw_below_drewN | apply below_drew1) | exact HB.out)) hb); clear HB; have HB := n0_; clear n0_; (try clear hb); (try clear hb2); (try clear hk); (try clear hi)) | ((with_reducible refine gate_callee (f := 14) rfl ?_); refine goesL_ (some 22) rfl rfl Try.func14 (by kernel_rfl) rfl #[.int .i64 a0, .string t173] rfl (by (try simp only [List.map_toArray, List.map_cons, List.map_nil]); first | done | rfl | (simp only [List.length_drop, List.length_take]; rfl)) ?_; (with_reducible refine (wire_Number.calls k a0 t173 t175 false _ A6.out).mono ?_); rintro e w87 ⟨rfl, hb⟩; refine ⟨_, rfl, ?_⟩; have n0_ := Aside0.mk (below_step (by repeat (first | (with_reducible first | exact HB.out | apply below_alloc | apply pw_below_drewN | apply below_drew1) | exact HB.out)) hb); clear HB; have HB := n0_; clear n0_; (try clear hb); (try clear hb2); (try clear hk); (try clear hi)) | ((with_reducible refine gate_callee (f := 14) rfl ?_); refine goesL_ (some 27) rfl rfl Try.func14 (by kernel_rfl) rfl #[.int .i64 a0, .string (⟨#[]⟩ : ByteArray)] rfl (by (try simp only [List.map_toArray, List.map_cons, List.map_nil]); first | done | rfl | (simp only [List.length_drop, List.length_take]; rfl)) ?_; (with_reducible refine (wire_Number.calls k a0 (⟨#[]⟩ : ByteArray) t177 false _ A7.out).mono ?_); rintro e w88 ⟨rfl, hb⟩; refine ⟨_, rfl, ?_⟩; have n0_ := Aside0.mk (below_step (by repeat (first | (with_reducible first | exact HB.out | apply below_alloc | apply pw_below_drewN | apply below_drew1) | exact HB.out)) hb); clear HB; have HB := n0_; clear n0_; (try clear hb); (try clear hb2); (try clear hk); (try clear hi)) | (go_at_call 18; (with_reducible refine (spindlelaw08_alive.calls k  t188 _ A84.out).mono ?_); rintro e w89 ⟨rfl, hb⟩; have n0_ := Aside0.mk (below_step (by repeat (first | (with_reducible first | exact HB.out | apply below_alloc | apply pw_below_drewN | apply below_drew1) | exact HB.out)) hb); clear HB; have HB := n0_; clear n0_; (try clear hb); (try clear hb2); (try clear hk); (try clear hi)))
                  go_ret
                  exact ⟨by first | rfl | (simp [errW_none, errW_some] <;> rfl) | (simp [*, errW_none, errW_some] <;> rfl) | (exfalso; simp_all; done), by repeat (first | (with_reducible first | exact HB.out | apply below_alloc | apply pw_below_drewN | apply below_drew1) | exact HB.out)⟩
                · rw [if_neg c83] at H
                  have c83b0 : decide (a0 ≤ 7) = false := decide_eq_false c83
                  clear c83
                  obtain rfl := Option.some.inj H
                  exact absurd HRT.out (by decide)
              · rw [if_neg c82] at H
                have c82b0 : decide (1 ≤ a0) = false := decide_eq_false c82
                clear c82
                obtain rfl := Option.some.inj H
                exact absurd HRT.out (by decide)

/-- THE ONE PURE STATEMENT of spindlelaw08_WireNamed: yours. -/
def spindlelaw08_WireNamed.Pure : Prop := ∀ (a0 : Int) (a1 : Int) (a2 : Int), (Lit.int .i64 a0).wf = true → (Lit.int .u32 a1).wf = true → (Lit.int .u32 a2).wf = true → ∃ k, spindlelaw08_WireNamed.f k a0 a1 a2 = some true
theorem spindlelaw08_WireNamed.walk (P : spindlelaw08_WireNamed.Pure) (a0 : Int) (a1 : Int) (a2 : Int) (w : World) (w0 : (Lit.int .i64 a0).wf = true) (w1 : (Lit.int .u32 a1).wf = true) (w2 : (Lit.int .u32 a2).wf = true) :
    Calls Try.prog 5 #[.int .i64 a0, .int .u32 a1, .int .u32 a2] w fun e w' => e = .returned (.bool true) ∧ Below w.heap.size w w' := by
  obtain ⟨k, h⟩ := P a0 a1 a2 w0 w1 w2
  refine (spindlelaw08_WireNamed.calls k a0 a1 a2 true rfl w h).mono ?_
  rintro e w' ⟨rfl, hd⟩
  exact ⟨rfl, hd⟩

end Go.Proofs.Ytilgfhiomcfmhaa.PT
