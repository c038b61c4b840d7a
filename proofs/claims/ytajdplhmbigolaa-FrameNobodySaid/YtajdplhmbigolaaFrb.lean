/- Cutting a client's flags from the front of an inbox: the generic cut at uint32, and Flags. -/
import Derived.Test.YtajdplhmbigolaaFra
import Derived.Test.YtajdplhmbigolaaWirc
import Derived.Deep.RegionHeld3
namespace Go.Proofs.Ytajdplhmbigolaa.Fra
open Go.RowKit Go.Proofs.YtajdplhmbigolaaW.PrintWords Go.Proofs.YtajdplhmbigolaaW.PrintLast Go.Proofs.Ytajdplhmbigolaa.Octa Go.Proofs.Ytajdplhmbigolaa.Hand
set_option linter.unusedVariables false

/-- What a cut says, by the decoder's error. -/
def code (e : Int) : Int := if e = 0 then 1 else if e = 10 then 0 else if e = 12 then 3 else 2
theorem code_0 : code 0 = 1 := rfl
theorem code_10 : code 10 = 0 := rfl
theorem code_12 : code 12 = 3 := rfl
theorem code_bad {e : Int} (h0 : ¬ e = 0) (h1 : ¬ e = 10) (h2 : ¬ e = 12) : code e = 2 := by unfold code; rw [if_neg h0, if_neg h1, if_neg h2]

/-- An inbox behind a call: its row, and what else has changed. -/
structure After (w w' : World) (g : Nat) (v v' : Value) (room : Nat) (xs : List Int) (pass : Nat) : Prop where
  ib : Ib w' g v' room xs pass
  fr : Fr (foot g v) w w'
  new : ∀ k, v'.ownBlock = some k → v.ownBlock = some k ∨ w.heap.size ≤ k
theorem After.of_below {w w' : World} {g : Nat} {v : Value} {room : Nat} {xs : List Int} {pass : Nat} (h : Ib w g v room xs pass) (hb : Below w.heap.size w w') : After w w' g v v room xs pass := ⟨h.below hb, Fr.of_below hb, fun _ hk => .inl hk⟩
theorem After.left {w0 w w' : World} {g : Nat} {v v' : Value} {room : Nat} {xs : List Int} {pass : Nat} (h : After w w' g v v' room xs pass) (hb : Below w0.heap.size w0 w) : After w0 w' g v v' room xs pass :=
  ⟨h.ib, (Fr.of_below hb).trans h.fr, fun k hk => by exact (h.new k hk).imp id (Nat.le_trans hb.size)⟩

/-- What a cut leaves: its answer, and the inbox. -/
structure Cut (w : World) (g : Nat) (v : Value) (room : Nat) (xs : List Int) (pass : Nat) (ans : Value) (e : Ending) (w' : World) : Prop where
  out : ∃ v', e = .returned ans ∧ After w w' g v v' room xs pass

set_option maxHeartbeats 1000000 in
set_option maxRecDepth 100000 in
theorem of_u32 (g : Nat) (v : Value) (room : Nat) (xs : List Int) (w : World) (h : Ib w g v room xs 0) (r1 r2 r3 : Int) (hf : wire_DecodeFlags.f xs = some (r1, r2, r3)) (hd : r3 = 0 → 0 ≤ r2 ∧ r2 ≤ xs.length) :
    Calls Try.prog 40 #[.agg #[.func (Fn.func 39) #[] #[]], .pointer (some ⟨g, 0, none⟩)] w fun e w' =>
      Cut w g v room (if r3 = 0 then xs.drop r2.toNat else xs) 0 (.tuple #[.int .u32 (if r3 = 0 then r1 else 0), .int .i64 (code r3)]) e w' := by
  obtain ⟨hb, ho, hne, hr1, hr2, hfit, hps⟩ := id h
  obtain ⟨A1, cp1, rfl⟩ := wr_form ho
  obtain ⟨hC, _, hcp⟩ := h.C
  have hb' := blk_alloc hb (.cells #[.func (Fn.func 39) #[] #[]] 101)
  have HB := Lib.hid hb'
  have hc1 : w.cell? ⟨g, 1, none⟩ = some _ := (blk_cell hb 1).trans rfl
  have hc2 : w.cell? ⟨g, 2, none⟩ = some _ := (blk_cell hb 2).trans rfl
  have hgl : g < w.heap.size := h.lt.1
  have hgn : ¬ g = w.heap.size := by omega
  have HH := Lib.hid h
  have HF := Lib.hid hf
  have HD := Lib.hid hd
  have HC := Lib.hid hC
  clear ho hne hb h hb' hf hd hC
  go_enter Try.func40, Try.ntmps40
  go_wp2_with fail
  refine (made_any g room _ _ _ hr1 hr2 HB.out).mono ?_
  rintro e w' ⟨rfl, rfl⟩
  go_wp2_with fail
  go_region_held3 (fun w' => w'.cell? ⟨w.heap.size, 0, none⟩ = some (.func (Fn.func 39) #[] #[]) ∧ w'.cell? ⟨g, 1, none⟩ = some (.slice A1 xs.length cp1)) (go_keep)
    (first | (go_at_call 39; refine (wire_DecodeFlags.calls A1 xs.length xs r1 r2 r3 _ ?_ (Nat.le_refl _) HF.out).mono ?_; (exact Kd.C_below HC.out (below_drew (below_alloc (Below.refl _ _) _))); rintro e w2 ⟨rfl, hbel⟩; obtain ⟨bc, bf⟩ := below_rules hbel; (have hb2 := (hbel.block g (by simp; omega)).trans HB.out); (have kg : w2.cell? ⟨g, 1, none⟩ = some (.slice A1 xs.length cp1) := (blk_cell hb2 1).trans rfl); (have HB2 := Lib.hid hb2); clear hb2))
  all_goals
    have hacc : Below w.heap.size w w2 := below_then (below_drew (below_alloc (Below.refl w.heap.size w) _)) (by simp) hbel
    have HI : Hid (Ib w2 g (.slice A1 xs.length cp1) room xs 0) := Lib.hid (HH.out.below hacc)
    have HACC := Lib.hid hacc
    clear hbel bc bf hacc HB HB2
    by_cases h0 : r3 = 0
    · subst h0
      obtain ⟨hd0, hd1⟩ := HD.out rfl
      obtain ⟨n, rfl⟩ := Int.eq_ofNat_of_zero_le hd0
      have hn : n ≤ xs.length := by omega
      have HN := Lib.hid hn
      clear hd0 hd1 hn
      go_wp2_with (go_at_call 76; go_must (refine (drop_calls g _ room xs 0 n HN.out _ HI.out).mono ?_); rintro e w3 ⟨v3, rfl, i1, i2, i3⟩; (have HR := Lib.hid (And.intro i1 (And.intro i2 i3))); clear i1 i2 i3)
      go_ret2
      obtain ⟨i1, i2, i3⟩ := HR.out
      exact ⟨⟨_, rfl, After.left ⟨by simpa using i1, i2, fun k hk => .inr (i3 k hk)⟩ HACC.out⟩⟩
    · by_cases h1 : r3 = 10
      · subst h1
        go_wp2_with fail
        go_ret2
        exact ⟨⟨_, rfl, After.left (After.of_below HI.out (Below.refl _ _)) HACC.out⟩⟩
      · by_cases h2 : r3 = 12
        · subst h2
          go_wp2_with fail
          go_ret2
          exact ⟨⟨_, rfl, After.left (After.of_below HI.out (Below.refl _ _)) HACC.out⟩⟩
        · have e0 : (r3 == 0) = false := beq_eq_false_iff_ne.mpr h0
          have e1 : (r3 == 10) = false := beq_eq_false_iff_ne.mpr h1
          have e2 : (r3 == 12) = false := beq_eq_false_iff_ne.mpr h2
          go_wp2_with fail
          go_ret2
          rw [code_bad h0 h1 h2]
          exact ⟨⟨_, rfl, After.left (After.of_below HI.out (Below.refl _ _)) HACC.out⟩⟩

/-- The decoder of flags, of what an inbox holds. -/
theorem flags_f {xs : List Int} (h : xs.length ≤ 2097152) : wire_DecodeFlags.f xs = some (if xs.length < 4 then (0, 4, 10) else (vat xs 0 4 % 4294967296, 4, 0)) := by
  unfold wire_DecodeFlags.f
  rw [if_pos (by omega)]
  split <;> rfl

theorem Flags_calls (g : Nat) (v : Value) (room : Nat) (xs : List Int) (w : World) (h : Ib w g v room xs 0) :
    Calls Try.prog 19 #[.pointer (some ⟨g, 0, none⟩)] w fun e w' =>
      Cut w g v room (if xs.length < 4 then xs else xs.drop 4) 0 (.tuple #[.int .u32 (if xs.length < 4 then 0 else vat xs 0 4 % 4294967296), .int .i64 (if xs.length < 4 then 0 else 1)]) e w' := by
  have hl : xs.length ≤ 2097152 := Nat.le_trans h.fit h.r2
  have H := Lib.hid h
  clear h
  by_cases hs : xs.length < 4
  · have hf := flags_f hl
    rw [if_pos hs] at hf ⊢
    rw [if_pos hs, if_pos hs]
    have HF := Lib.hid hf
    clear hf hs
    go_enter Try.func19, Try.ntmps19
    go_wp2_with (go_at_call 40; go_must (refine (of_u32 g v room xs w H.out 0 4 10 HF.out (fun h => by cases h)).mono ?_); rintro e w' ⟨v', rfl, ha⟩; (have HA := Lib.hid ha); clear ha)
    go_ret2
    exact ⟨⟨v', rfl, HA.out⟩⟩
  · have hf := flags_f hl
    rw [if_neg hs] at hf ⊢
    rw [if_neg hs, if_neg hs]
    have HF := Lib.hid hf
    have HS := Lib.hid hs
    clear hf hs
    go_enter Try.func19, Try.ntmps19
    go_wp2_with (go_at_call 40; go_must (refine (of_u32 g v room xs w H.out (vat xs 0 4 % 4294967296) 4 0 HF.out (fun _ => ⟨by omega, by have := HS.out; omega⟩)).mono ?_); rintro e w' ⟨v', rfl, ha⟩; (have HA := Lib.hid ha); clear ha)
    go_ret2
    exact ⟨⟨v', rfl, HA.out⟩⟩
end Go.Proofs.Ytajdplhmbigolaa.Fra
