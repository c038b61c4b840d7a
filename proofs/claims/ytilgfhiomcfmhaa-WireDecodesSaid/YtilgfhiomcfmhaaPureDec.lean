/- The document's decoders answer what the program's do, of every row of bytes. (Over the print PD.) -/
import Derived.Test.YtilgfhiomcfmhaaPDx3
import Derived.Test.YtilgfhiomcfmhaaPureBytes
namespace Go.Proofs.Ytilgfhiomcfmhaa.PureD
open Go.RowKit Go.Proofs.Ytilgfhiomcfmhaa.Hand Go.Proofs.Ytilgfhiomcfmhaa.PD Go.Proofs.Ytilgfhiomcfmhaa.Octa Go.Proofs.YtilgfhiomcfmhaaW.PrintWords Go.Proofs.YtilgfhiomcfmhaaW.PrintLast
set_option linter.unusedSimpArgs false
set_option linter.unusedVariables false

theorem wrap_up {i : Int} (h0 : 0 ≤ i) (h1 : i < 9223372036854775807) : wrap64 (i + 1) = i + 1 := by unfold wrap64; omega
theorem wrap_id {i : Int} (h0 : 0 ≤ i) (h1 : i < 9223372036854775807) : wrap64 i = i := by unfold wrap64; omega
theorem u64_up {a : Int} (h0 : 0 ≤ a) (h1 : a < 18446744073709551616) : IntKind.u64.wrap a = a := by
  first | exact IntWalk.u64_in _ (by omega) | (simp [IntKind.wrap, IntKind.bits, IntKind.signed]; omega) | (simp [IntKind.wrap, IntKind.bits]; omega)
theorem u16_mod (a : Int) : IntKind.u16.wrap a = a % 65536 := by
  first | rfl | (simp [IntKind.wrap, IntKind.bits, IntKind.signed]; done) | (simp [IntKind.wrap, IntKind.bits]; done)

theorem value_go (x : List Int) (hl : x.length ≤ 140737488355000) : ∀ (d i k : Nat), i + d = x.length → d < k → spindleref01_Value.l0 k x (vl (x.take i)) (i : Int) = some (vl x) := by
  intro d
  induction d with
  | zero =>
    intro i k h hk
    obtain ⟨k, rfl⟩ : ∃ m, k = m + 1 := ⟨k - 1, by omega⟩
    simp only [spindleref01_Value.l0]
    rw [if_neg (by omega), List.take_of_length_le (by omega)]
  | succ d ih =>
    intro i k h hk
    obtain ⟨k, rfl⟩ : ∃ m, k = m + 1 := ⟨k - 1, by omega⟩
    simp only [spindleref01_Value.l0]
    rw [if_pos (by omega), if_pos (by omega), wrap_up (by omega) (by omega)]
    have hn := ih (i + 1) k (by omega) (by omega)
    rw [show ((i + 1 : Nat) : Int) = (i : Int) + 1 from by omega] at hn
    have hi : i < x.length := by omega
    have e : x.take (i + 1) = x.take i ++ [rd x (i : Int)] := by
      rw [List.take_add_one, List.getElem?_eq_getElem hi]
      simp [rd, List.getD_eq_getElem?_getD, List.getElem?_eq_getElem hi]
    rw [e, vl_snoc] at hn
    exact hn

theorem value_is (l : List Int) (a n : Nat) (h : a + n ≤ l.length) (hn : n ≤ 8) (hl : l.length ≤ 140737488355000) (k : Nat) (hk : 9 ≤ k) : spindleref08_value.f k l (a : Int) (n : Int) = some (vat l a n) := by
  unfold spindleref08_value.f spindleref01_Value.f
  have hw : wrap64 ((a : Int) + (n : Int)) = ((a + n : Nat) : Int) := by rw [wrap_id (by omega) (by omega)]; omega
  rw [hw, if_pos (by omega), if_pos (by omega), if_pos (by omega), Int.toNat_natCast, Int.toNat_natCast, List.drop_take, show a + n - a = n from by omega]
  have := value_go ((l.drop a).take n) (by rw [List.length_take]; omega) ((l.drop a).take n).length 0 k (by omega) (by rw [List.length_take]; omega)
  rw [show ((0 : Nat) : Int) = 0 from rfl, List.take_zero, show vl [] = 0 from rfl] at this
  rw [this]
  rfl

theorem head_is (l : List Int) (size : Nat) (magic : Int) (n : Nat) (hn : n ≤ 8) (hs : n ≤ size) (hl : l.length ≤ 140737488355000) (k : Nat) (hk : 9 ≤ k) :
    spindleref08_head.f k l (size : Int) magic (n : Int) = some (if l.length < size then ((size : Int), 10) else if n = 0 then (0, 0) else if vat l 0 n = magic then (0, 0) else (0, 80)) := by
  unfold spindleref08_head.f
  by_cases h : l.length < size
  · rw [if_pos (by omega), if_pos h]
  · rw [if_neg (by omega), if_neg h]
    by_cases h0 : n = 0
    · rw [if_neg (by omega), if_pos h0]
    · have hv := value_is l 0 n (by omega) hn hl k hk
      rw [show ((0 : Nat) : Int) = 0 from rfl] at hv
      rw [if_pos (by omega), if_neg h0, hv]
      simp only [Option.bind_some]
      by_cases hm : vat l 0 n = magic
      · rw [if_pos hm, if_pos hm]
      · rw [if_neg hm, if_neg hm]

theorem tail_is (l : List Int) (size more most : Int) (h0 : 0 ≤ size) (h1 : size ≤ 32) (m0 : 0 ≤ more) (m1 : more < 18446744073709551616) (q0 : 0 ≤ most) (q1 : most ≤ 4294967295) (hl : l.length ≤ 140737488355000) :
    spindleref08_tail.f l size more most = some (if more > most then (size, 12) else if (l.length : Int) < size + more then (size + more, 10) else (size + more, 0)) := by
  unfold spindleref08_tail.f
  rw [u64_up q0 (by omega), u64_up (a := (l.length : Int)) (by omega) (by omega), u64_up (a := size) h0 (by omega)]
  by_cases h : more > most
  · rw [if_pos h, if_pos h]
  · rw [if_neg h, if_neg h, u64_up (a := size + more) (by omega) (by omega), wrap_id (i := more) (by omega) (by omega), wrap_id (i := size + more) (by omega) (by omega)]
    by_cases h2 : (l.length : Int) < size + more
    · rw [if_pos h2, if_pos h2]
    · rw [if_neg h2, if_neg h2]

theorem copy_is (l : List Int) (hl : l.length ≤ 140737488355000) : spindleref01_Copy.f l = some l := by
  unfold spindleref01_Copy.f
  rw [if_pos (by simp; omega)]
  rfl

theorem payload_is (a b c d e : Int) (z : Bool) : spindleref08_payload.f a b c d e [] z = some (paidB a b z) := by
  unfold spindleref08_payload.f paidB
  cases z <;> rfl

theorem m32 (l : List Int) (a : Nat) (hb : Bytes l) (h : a + 4 ≤ l.length) : vat l a 4 % 4294967296 = vat l a 4 ∧ 0 ≤ vat l a 4 ∧ vat l a 4 < 4294967296 := by
  have h1 := vat_lt l a 4 hb (by decide) h
  have h0 := (vat_range l a 4).1
  have h2 : vat l a 4 < 4294967296 := h1
  omega

theorem dec_greet (l : List Int) (hl : l.length ≤ 140737488355000) (k : Nat) (hk : 9 ≤ k) : spindleref08_DecodeGreeting.f k l = wire_DecodeGreeting.f l := by
  unfold spindleref08_DecodeGreeting.f wire_DecodeGreeting.f
  have hh := head_is l 18 5639144782019643715 8 (by decide) (by decide) hl k hk
  rw [show (((18 : Nat) : Int)) = 18 from rfl, show (((8 : Nat) : Int)) = 8 from rfl] at hh
  rw [if_pos hl, hh]
  by_cases h1 : l.length < 18
  · simp [h1]
  · have v1 := value_is l 8 8 (by omega) (by decide) hl k hk
    have v2 := value_is l 16 2 (by omega) (by decide) hl k hk
    rw [show (((8 : Nat) : Int)) = 8 from rfl] at v1
    rw [show (((16 : Nat) : Int)) = 16 from rfl, show (((2 : Nat) : Int)) = 2 from rfl] at v2
    by_cases h2 : vat l 0 8 = 5639144782019643715
    · by_cases h3 : vat l 8 8 = 5280542401877725268
      · simp [h1, h2, h3, v1, v2, u16_mod]
      · simp [h1, h2, h3, v1]
    · simp [h1, h2]

theorem dec_flags (l : List Int) (hl : l.length ≤ 140737488355000) (k : Nat) (hk : 9 ≤ k) : spindleref08_DecodeFlags.f k l = wire_DecodeFlags.f l := by
  unfold spindleref08_DecodeFlags.f wire_DecodeFlags.f
  have hh := head_is l 4 0 0 (by decide) (by decide) hl k hk
  rw [show (((4 : Nat) : Int)) = 4 from rfl, show (((0 : Nat) : Int)) = 0 from rfl] at hh
  rw [if_pos hl, hh]
  by_cases h1 : l.length < 4
  · simp [h1]
  · have v1 := value_is l 0 4 (by omega) (by decide) hl k hk
    rw [show (((0 : Nat) : Int)) = 0 from rfl, show (((4 : Nat) : Int)) = 4 from rfl] at v1
    simp [h1, v1]

theorem dec_simple (l : List Int) (hb : Bytes l) (hl : l.length ≤ 140737488355000) (k : Nat) (hk : 9 ≤ k) : spindleref08_DecodeSimple.f k l = wire_DecodeSimple.f l := by
  unfold spindleref08_DecodeSimple.f wire_DecodeSimple.f
  have hh := head_is l 16 1732535960 4 (by decide) (by decide) hl k hk
  rw [show (((16 : Nat) : Int)) = 16 from rfl, show (((4 : Nat) : Int)) = 4 from rfl] at hh
  rw [if_pos hl, hh]
  by_cases h1 : l.length < 16
  · simp [h1]
  · have v1 := value_is l 4 4 (by omega) (by decide) hl k hk
    have v2 := value_is l 8 8 (by omega) (by decide) hl k hk
    rw [show (((4 : Nat) : Int)) = 4 from rfl] at v1
    rw [show (((8 : Nat) : Int)) = 8 from rfl] at v2
    rw [(m32 l 0 hb (by omega)).1]
    by_cases h2 : vat l 0 4 = 1732535960
    · simp [h1, h2, v1, v2]
    · simp [h1, h2]

theorem zeros_go (l : List Int) (size : Nat) (hs : size ≤ l.length) (hs10 : 10 ≤ size) (hl : l.length ≤ 140737488355000) (K : Nat) (hK : 9 ≤ K) : ∀ (d i k : Nat), i + d = size → 10 ≤ i → d + K < k →
    spindleref08_DecodeExport.l0 k l (size : Int) (i : Int) = some (if ((l.take size).drop i).all (· == 0) = true then (vat l 0 8, vat l 8 2 % 65536, (size : Int), 0) else (0, 0, 0, 81)) := by
  intro d
  induction d with
  | zero =>
    intro i k h h10 hk
    obtain ⟨k, rfl⟩ : ∃ m, k = m + 1 := ⟨k - 1, by omega⟩
    simp only [spindleref08_DecodeExport.l0]
    have v1 := value_is l 0 8 (by omega) (by decide) hl k (by omega)
    have v2 := value_is l 8 2 (by omega) (by decide) hl k (by omega)
    rw [show (((0 : Nat) : Int)) = 0 from rfl, show (((8 : Nat) : Int)) = 8 from rfl] at v1
    rw [show (((8 : Nat) : Int)) = 8 from rfl, show (((2 : Nat) : Int)) = 2 from rfl] at v2
    rw [if_neg (by omega), v1, v2, List.drop_eq_nil_of_le (by rw [List.length_take]; omega)]
    simp [u16_mod]
  | succ d ih =>
    intro i k h h10 hk
    obtain ⟨k, rfl⟩ : ∃ m, k = m + 1 := ⟨k - 1, by omega⟩
    simp only [spindleref08_DecodeExport.l0]
    have hn := ih (i + 1) k (by omega) (by omega) (by omega)
    rw [show ((i + 1 : Nat) : Int) = (i : Int) + 1 from by omega] at hn
    have hi : i < (l.take size).length := by rw [List.length_take]; omega
    have hr : rd l (i : Int) = (l.take size)[i] := by
      simp [rd, List.getD_eq_getElem?_getD, List.getElem?_eq_getElem (show i < l.length by omega)]
    rw [if_pos (by omega), if_pos (by omega), if_pos (by omega), wrap_up (by omega) (by omega), hn, hr, List.drop_eq_getElem_cons hi]
    by_cases hz : (l.take size)[i] = 0
    · rw [if_pos hz]
      simp [hz]
    · rw [if_neg hz]
      have hz2 : ((l.take size)[i] :: (l.take size).drop (i + 1)).all (· == 0) = false := by
        rw [List.all_cons, beq_eq_false_iff_ne.mpr hz]
        rfl
      rw [hz2]
      rfl

theorem dec_export (l : List Int) (z : Bool) (hl : l.length ≤ 140737488355000) (k : Nat) (hk : 150 ≤ k) : spindleref08_DecodeExport.f k l z = wire_DecodeExport.f l z := by
  unfold spindleref08_DecodeExport.f wire_DecodeExport.f
  obtain ⟨k, rfl⟩ : ∃ m, k = m + 1 := ⟨k - 1, by omega⟩
  rw [if_pos hl]
  cases z with
  | false =>
    rw [if_neg (by decide), if_neg (by decide)]
    simp only [spindleref08_DecodeExport.j0]
    have hh := head_is l 10 0 0 (by decide) (by decide) hl k (by omega)
    rw [show (((10 : Nat) : Int)) = 10 from rfl, show (((0 : Nat) : Int)) = 0 from rfl] at hh
    rw [hh]
    by_cases h1 : l.length < 10
    · simp [h1]
    · have hz := zeros_go l 10 (by omega) (by decide) hl 9 (by decide) 0 10 k (by omega) (by decide) (by omega)
      rw [show (((10 : Nat) : Int)) = 10 from rfl, List.drop_eq_nil_of_le (by rw [List.length_take]; omega)] at hz
      simp [h1, hz]
  | true =>
    rw [if_pos rfl, if_pos rfl]
    simp only [spindleref08_DecodeExport.j0]
    have hh := head_is l 134 0 0 (by decide) (by decide) hl k (by omega)
    rw [show (((134 : Nat) : Int)) = 134 from rfl, show (((0 : Nat) : Int)) = 0 from rfl] at hh
    rw [hh]
    by_cases h1 : l.length < 134
    · simp [h1]
    · have hz := zeros_go l 134 (by omega) (by decide) hl 9 (by decide) 124 10 k (by omega) (by decide) (by omega)
      rw [show (((10 : Nat) : Int)) = 10 from rfl, show (((134 : Nat) : Int)) = 134 from rfl] at hz
      rw [if_neg h1, if_neg h1, if_pos rfl]
      simp only [Option.bind_some, if_true, hz]
      split <;> rfl

end Go.Proofs.Ytilgfhiomcfmhaa.PureD
