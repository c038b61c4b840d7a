/- Package wire's decoders: what each takes, of every row of bytes shorter than 2^47. -/
import Derived.Test.YtilgfhiomcfmhaaOctc
namespace Go.Proofs.Ytilgfhiomcfmhaa.Hand
open Go.RowKit Go.Proofs.YtilgfhiomcfmhaaW.PrintWords Go.Proofs.YtilgfhiomcfmhaaW.PrintLast Go.Proofs.Ytilgfhiomcfmhaa.Octa
set_option linter.unusedVariables false
set_option linter.unusedSimpArgs false
theorem fresh_R {w w' : World} {v' : Value} {ys : List Int} (h1 : w'.ownsRow 0 5 1 v' ys.length (nums .u8 ys)) (h2 : w.grownBy w' none) (h3 : ∀ k, v'.ownBlock = some k → w.heap.size ≤ k) :
    Kd.R (Kd.int .u8) 5 w' w.heap.size (fun _ => True) v' ys ∧ Below w.heap.size w w' := by
  refine ⟨R_of_own ⟨h1.1, ?_⟩, ⟨h2.os, h2.tape, h2.output, h2.size, fun k hk => h2.block k hk (by simp)⟩⟩
  rcases h1.2 with h | ⟨g, cap, cur, hv, _, hg⟩
  · exact .inl h
  · exact .inr ⟨g, cap, cur, hv, h3 g (by rw [hv]; rfl), hg⟩

set_option maxHeartbeats 1000000 in
set_option maxRecDepth 100000 in
theorem behind_calls (A0 : Option Addr) (c0 n0 : Nat) (l0 : List Int) (hd n : Nat) (w : World) (hr0 : Kd.C (Kd.int .u8) w A0 l0.length l0) (hc0 : l0.length ≤ c0) (hcm : l0.length ≤ 140737488355000) (h1 : hd ≤ n) (h2 : n ≤ l0.length) :
    Calls Try.prog 84 #[.slice A0 l0.length c0, .int .i64 hd, .int .i64 n] w fun e w' => ∃ v, e = .returned v ∧ Kd.R (Kd.int .u8) 5 w' w.heap.size (fun _ => True) v ((l0.take n).drop hd) ∧ Below w.heap.size w w' := by
  obtain ⟨i0, hi, hz0, hz1, hz2⟩ := info_parts info_u8
  have hnil : w.ownsRow 0 5 1 (.slice none 0 0) ([] : List Int).length (nums .u8 []) := own_nil _ _ _ _
  rcases Nat.lt_or_ge hd n with hlt | hge
  · obtain ⟨ad, rfl, _⟩ := hr0.2.2 (by omega)
    have hC : Kd.C (Kd.int .u8) w (some (ad.add hd)) ((l0.take n).drop hd).length ((l0.take n).drop hd) := by
      have := Kd.C_drop (Kd.C_take hr0 h2) (m := hd) (c := n + hd + 1) (by simp; omega) (by simp; omega)
      rw [if_neg (by omega)] at this
      have hs : (Kd.int .u8).sz = 1 := rfl
      simpa [hs] using this
    have H := Lib.hid hC
    clear hr0 hC
    have hne : ¬ n = hd := by omega
    have hlen : ((l0.take n).drop hd).length = n - hd := by simp; omega
    have HL := Lib.hid hlen
    have HN := Lib.hid hnil
    clear hlen hnil
    go_enter Try.func84, Try.ntmps84
    go_wp2_with (at_builtin; go_must (refine wpList_append_bytes rfl (.const (.slice none 0 0)) (.tmp 11) 31 rfl 5 i0 (.int .u8 0) Try.underlying31 hi hz0 hz1 hz2 rfl (.slice none 0 0) [] rfl HN.out (some (ad.add hd)) ((l0.take n).drop hd) (n - hd) _ HL.out rfl H.out (by simp; omega) ?_); intro v' w' hown hgrow hnew; have HH := Lib.hid (And.intro hown (And.intro hgrow hnew)); clear hown hgrow hnew)
    all_goals
      go_ret
      obtain ⟨h1, h2, h3⟩ := HH.out
      exact ⟨_, rfl, fresh_R h1 h2 (fun k hk => (h3 k hk).resolve_left (by simp [Value.ownBlock]))⟩
  · obtain rfl : n = hd := by omega
    have HN := Lib.hid hnil
    clear hnil hr0
    cases A0
    all_goals
      go_enter Try.func84, Try.ntmps84
      go_wp2_with (at_builtin; go_must (refine wpList_append_bytes rfl (.const (.slice none 0 0)) (.tmp 11) 31 rfl 5 i0 (.int .u8 0) Try.underlying31 hi hz0 hz1 hz2 rfl (.slice none 0 0) [] rfl HN.out _ [] 0 _ rfl rfl ⟨rfl, by simp, fun h => absurd h (by simp)⟩ (by simp) ?_); intro v' w' hown hgrow hnew; have HH := Lib.hid (And.intro hown (And.intro hgrow hnew)); clear hown hgrow hnew)
      go_ret
      obtain ⟨h1, h2, h3⟩ := HH.out
      have := fresh_R h1 h2 (fun k hk => (h3 k hk).resolve_left (by simp [Value.ownBlock]))
      rw [List.drop_of_length_le (by simp; omega)]
      exact ⟨_, rfl, this⟩

theorem whole32_calls (A0 : Option Addr) (m c0 : Nat) (hd x : Int) (w : World) (hm : m ≤ 140737488355328) (hh : 0 ≤ hd ∧ hd ≤ 1000) (hx : 0 ≤ x ∧ x ≤ 4294967295) :
    Calls Try.prog 91 #[.slice A0 m c0, .int .i64 hd, .int .u32 x] w fun e w' => e = .returned (.tuple #[.int .i64 (hd + x), .int .i64 (if (m : Int) < hd + x then 10 else 0)]) ∧ w = w' := by
  by_cases h : (m : Int) < hd + x
  · rw [if_pos h]
    go_enter Try.func91, Try.ntmps91
    go_wp2
    go_ret2
    exact ⟨rfl, rfl⟩
  · rw [if_neg h]
    go_enter Try.func91, Try.ntmps91
    go_wp2
    go_ret2
    exact ⟨rfl, rfl⟩
theorem whole64_calls (A0 : Option Addr) (m c0 : Nat) (hd x : Int) (w : World) (hm : m ≤ 140737488355328) (hh : 0 ≤ hd ∧ hd ≤ 1000) (hx : 0 ≤ x ∧ x ≤ 4294967295) :
    Calls Try.prog 83 #[.slice A0 m c0, .int .i64 hd, .int .u64 x] w fun e w' => e = .returned (.tuple #[.int .i64 (hd + x), .int .i64 (if (m : Int) < hd + x then 10 else 0)]) ∧ w = w' := by
  by_cases h : (m : Int) < hd + x
  · rw [if_pos h]
    go_enter Try.func83, Try.ntmps83
    go_wp2
    go_ret2
    exact ⟨rfl, rfl⟩
  · rw [if_neg h]
    go_enter Try.func83, Try.ntmps83
    go_wp2
    go_ret2
    exact ⟨rfl, rfl⟩

/-- A store below what was made. -/
theorem R_setlow {α : Type} {d : Kd α} {e : Nat} {w : World} {base : Nat} {ok : Nat → Prop} {v : Value} {xs : List α} (h : Kd.R d e w base ok v xs) {b o : Nat} (hb : b < base) (u : Value) : Kd.R d e (w.setCell ⟨b, o, none⟩ u) base ok v xs :=
  Kd.R_mono (Kd.R_move (Kd.R_bound h) (fun k hk => Below.heap_setCell w ⟨b, o, none⟩ u k (fun e => by have := hk.2.1; have e' : k = b := e; omega))) (fun _ hk => hk.1)
theorem behind_int (A0 : Option Addr) (c0 : Nat) (l0 ds : List Int) (hd n : Int) (w : World) (hr0 : Kd.C (Kd.int .u8) w A0 l0.length l0) (hc0 : l0.length ≤ c0) (hcm : l0.length ≤ 140737488355000) (h0 : 0 ≤ hd) (h1 : hd ≤ n) (h2 : n ≤ l0.length) (hds : ds = (l0.take n.toNat).drop hd.toNat) :
    Calls Try.prog 84 #[.slice A0 l0.length c0, .int .i64 hd, .int .i64 n] w fun e w' => ∃ A' c', e = .returned (.slice A' ds.length c') ∧ Kd.R (Kd.int .u8) 5 w' w.heap.size (fun _ => True) (.slice A' ds.length c') ds ∧ Below w.heap.size w w' := by
  obtain ⟨hdn, rfl⟩ := Int.eq_ofNat_of_zero_le h0
  obtain ⟨nn, rfl⟩ := Int.eq_ofNat_of_zero_le (Int.le_trans h0 h1)
  subst hds
  refine (behind_calls A0 c0 0 l0 hdn nn w hr0 hc0 hcm (by omega) (by omega)).mono ?_
  rintro e w' ⟨v, rfl, hR, hB⟩
  rw [Int.toNat_natCast, Int.toNat_natCast]
  obtain ⟨A', c', rfl⟩ := Kd.R_slice hR
  exact ⟨A', c', rfl, hR, hB⟩
end Go.Proofs.Ytilgfhiomcfmhaa.Hand
