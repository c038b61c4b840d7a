/- What a decoder tells, laid down again: one shape for all eleven: a head, then a refusal or a length. -/
import Derived.Test.YtilgfhiomcfmhaaPWx2
import Derived.Test.YtilgfhiomcfmhaaPureBytes
namespace Go.Proofs.Ytilgfhiomcfmhaa.Pure
open Go.RowKit Go.Proofs.Ytilgfhiomcfmhaa.Hand Go.Proofs.Ytilgfhiomcfmhaa.PW Go.Proofs.Ytilgfhiomcfmhaa.Octa Go.Proofs.YtilgfhiomcfmhaaW.PrintWords Go.Proofs.YtilgfhiomcfmhaaW.PrintLast
set_option linter.unusedSimpArgs false
set_option linter.unusedVariables false

/-- The shape of a decoder's answer, and of what it took, laid down again. -/
def shape (H : Nat) (z : List Int) (g : List Int → (Int × Int × List Int) ⊕ Nat) (b : List Int) : Int × Int × List Int :=
  if b.length < H then ((H : Int), 10, z) else
    match g (b.take H) with
    | .inl r => r
    | .inr n => if b.length < n then ((n : Int), 10, z) else ((n : Int), 0, b.take n)

/-- What a shape's parts must be. -/
structure Fits (H : Nat) (g : List Int → (Int × Int × List Int) ⊕ Nat) : Prop where
  head : 1 ≤ H ∧ H ≤ 1000
  bad : ∀ h r, g h = .inl r → (r.2.1 = 12 ∨ r.2.1 = 80 ∨ r.2.1 = 81)
  need : ∀ h n, g h = .inr n → H ≤ n

theorem vat_head (l : List Int) (H a n : Nat) (h : a + n ≤ H) : vat (l.take H) a n = vat l a n := vat_take l a n H h

theorem take_cut (l : List Int) (i n m : Nat) (h : i + n = m) : l.take m = l.take i ++ (l.drop i).take n := by
  subst h; exact List.take_add

theorem data_is (l : List Int) (v : Int) (h : Nat) (h0 : 0 ≤ v) : (l.take ((h : Int) + v).toNat).drop h = (l.drop h).take v.toNat := by
  rw [List.drop_take]
  congr 1
  omega

/-- Two bytes' number, four bytes' number: the width says nothing more. -/
theorem vat2 (l : List Int) (a : Nat) (hb : Bytes l) (h : a + 2 ≤ l.length) : vat l a 2 % 65536 = vat l a 2 := by
  have := vat_lt l a 2 hb (by omega) h
  have := (vat_range l a 2).1
  have e : (256 : Int) ^ 2 = 65536 := by decide
  omega
theorem vat4 (l : List Int) (a : Nat) (hb : Bytes l) (h : a + 4 ≤ l.length) : vat l a 4 % 4294967296 = vat l a 4 := by
  have := vat_lt l a 4 hb (by omega) h
  have := (vat_range l a 4).1
  have e : (256 : Int) ^ 4 = 4294967296 := by decide
  omega
theorem bev (l : List Int) (a n : Nat) (v : Int) (hv : vat l a n = v) (hb : Bytes l) (hn : n ≤ 8) (h : a + n ≤ l.length) : be v n = (l.drop a).take n := by
  subst hv; exact be_vat l a n hb hn h

theorem told_0 (most : Int) : ∃ H z g, Fits H g ∧ ∀ b : List Int, Bytes b → b.length ≤ 140737488355000 → ∀ j, spindlelaw08_told.f j 0 b most = some (shape H z g b) := by
  refine ⟨18, (wire_EncodeGreeting.f 0).getD [], fun h => if vat h 0 8 = 5639144782019643715 ∧ vat h 8 8 = 5280542401877725268 then .inr 18 else .inl (0, 80, (wire_EncodeGreeting.f 0).getD []), ⟨by omega, ?_, ?_⟩, ?_⟩
  · intro h r e; split at e <;> simp at e; subst e; simp
  · intro h n e; split at e <;> simp at e; omega
  · intro b hb hl j
    unfold spindlelaw08_told.f shape wire_DecodeGreeting.f spindlelaw08_num.f
    dsimp only
    rw [if_pos rfl, if_pos hl, vat_head b 18 0 8 (by omega), vat_head b 18 8 8 (by omega)]
    by_cases h1 : b.length < 18
    · rw [if_pos h1, if_pos h1]; rfl
    · rw [if_neg h1, if_neg h1]
      by_cases h2 : vat b 0 8 = 5639144782019643715
      · by_cases h3 : vat b 8 8 = 5280542401877725268
        · rw [if_pos h2, if_pos h3, if_pos ⟨h2, h3⟩]
          simp only [h1, if_false, Option.bind_some]
          have h16 := vat2 b 16 hb (by omega)
          have hr := vat_range b 16 2
          unfold wire_EncodeGreeting.f
          rw [if_pos (by omega), bev b 0 8 _ h2 hb (by omega) (by omega), bev b 8 8 _ h3 hb (by omega) (by omega), bev b 16 2 _ h16.symm hb (by omega) (by omega), take_cut b 16 2 18 rfl, take_cut b 8 8 16 rfl]
          rfl
        · rw [if_pos h2, if_neg h3, if_neg (fun h => h3 h.2)]; rfl
      · rw [if_neg h2, if_neg (fun h => h2 h.1)]; rfl

theorem told_1 (most : Int) : ∃ H z g, Fits H g ∧ ∀ b : List Int, Bytes b → b.length ≤ 140737488355000 → ∀ j, spindlelaw08_told.f j 1 b most = some (shape H z g b) := by
  refine ⟨4, (wire_EncodeFlags.f 0).getD [], fun h => .inr 4, ⟨by omega, ?_, ?_⟩, ?_⟩
  · intro h r e; simp at e
  · intro h n e; simp at e; omega
  · intro b hb hl j
    unfold spindlelaw08_told.f shape wire_DecodeFlags.f spindlelaw08_num.f
    dsimp only
    rw [if_neg (by decide), if_pos rfl, if_pos hl]
    by_cases h1 : b.length < 4
    · rw [if_pos h1, if_pos h1]; rfl
    · rw [if_neg h1, if_neg h1]
      simp only [h1, if_false, Option.bind_some]
      have h16 := vat4 b 0 hb (by omega)
      have hr := vat_range b 0 4
      unfold wire_EncodeFlags.f
      rw [if_pos (by omega), bev b 0 4 _ h16.symm hb (by omega) (by omega)]
      rfl

theorem told_2 (most : Int) : ∃ H z g, Fits H g ∧ ∀ b : List Int, Bytes b → b.length ≤ 140737488355000 → ∀ j, spindlelaw08_told.f j 2 b most = some (shape H z g b) := by
  refine ⟨10, (wire_EncodeExport.f 0 0 false).getD [], fun h => .inr 10, ⟨by omega, ?_, ?_⟩, ?_⟩
  · intro h r e; simp at e
  · intro h n e; simp at e; omega
  · intro b hb hl j
    unfold spindlelaw08_told.f shape wire_DecodeExport.f spindlelaw08_num.f
    dsimp only
    rw [if_neg (by decide), if_neg (by decide), if_pos rfl, if_pos hl, if_neg (by decide)]
    by_cases h1 : b.length < 10
    · rw [if_pos h1, if_pos h1]; rfl
    · rw [if_neg h1, if_neg h1]
      simp only [h1, if_false, Option.bind_some]
      have h8 := vat2 b 8 hb (by omega)
      have hr := vat_range b 8 2
      unfold wire_EncodeExport.f
      rw [if_pos (by omega), if_neg (by decide), bev b 0 8 _ rfl hb (by omega) (by omega), bev b 8 2 _ h8.symm hb (by omega) (by omega), take_cut b 8 2 10 rfl]
      rfl

theorem told_3 (most : Int) : ∃ H z g, Fits H g ∧ ∀ b : List Int, Bytes b → b.length ≤ 140737488355000 → ∀ j, spindlelaw08_told.f j 3 b most = some (shape H z g b) := by
  refine ⟨134, (wire_EncodeExport.f 0 0 true).getD [], fun h => if (h.drop 10).all (· == 0) = true then .inr 134 else .inl (0, 81, (wire_EncodeExport.f 0 0 true).getD []), ⟨by omega, ?_, ?_⟩, ?_⟩
  · intro h r e; split at e <;> simp at e; subst e; simp
  · intro h n e; split at e <;> simp at e; omega
  · intro b hb hl j
    unfold spindlelaw08_told.f shape wire_DecodeExport.f spindlelaw08_num.f
    dsimp only
    rw [if_neg (by decide), if_neg (by decide), if_neg (by decide), if_pos rfl, if_pos hl, if_pos rfl]
    by_cases h1 : b.length < 134
    · rw [if_pos h1, if_pos h1]; rfl
    · rw [if_neg h1, if_neg h1]
      by_cases h2 : ((b.take 134).drop 10).all (· == 0) = true
      · rw [if_pos h2, if_pos h2]
        simp only [h1, if_false, Option.bind_some]
        have h8 := vat2 b 8 hb (by omega)
        have hr := vat_range b 8 2
        have hz : (b.take 134).drop 10 = List.replicate 124 0 := by
          rw [List.eq_replicate_iff]
          refine ⟨by rw [List.length_drop, List.length_take]; omega, fun x hx => ?_⟩
          have := List.all_eq_true.1 h2 x hx
          simpa using this
        rw [List.drop_take] at hz
        unfold wire_EncodeExport.f
        rw [if_pos (by omega), if_pos rfl, bev b 0 8 _ rfl hb (by omega) (by omega), bev b 8 2 _ h8.symm hb (by omega) (by omega), ← hz, take_cut b 10 124 134 rfl, take_cut b 8 2 10 rfl]
        rfl
      · rw [if_neg h2, if_neg h2]; rfl

theorem told_4 (most : Int) : ∃ H z g, Fits H g ∧ ∀ b : List Int, Bytes b → b.length ≤ 140737488355000 → ∀ j, spindlelaw08_told.f j 4 b most = some (shape H z g b) := by
  refine ⟨16, (wire_EncodeSimple.f 0 0).getD [], fun h => if vat h 0 4 % 4294967296 = 1732535960 then .inr 16 else .inl (0, 80, (wire_EncodeSimple.f 0 0).getD []), ⟨by omega, ?_, ?_⟩, ?_⟩
  · intro h r e; split at e <;> simp at e; subst e; simp
  · intro h n e; split at e <;> simp at e; omega
  · intro b hb hl j
    unfold spindlelaw08_told.f shape wire_DecodeSimple.f spindlelaw08_num.f
    dsimp only
    rw [if_neg (by decide), if_neg (by decide), if_neg (by decide), if_neg (by decide), if_pos rfl, if_pos hl, vat_head b 16 0 4 (by omega)]
    by_cases h1 : b.length < 16
    · rw [if_pos h1, if_pos h1]; rfl
    · rw [if_neg h1, if_neg h1]
      by_cases h2 : vat b 0 4 % 4294967296 = 1732535960
      · rw [if_pos h2, if_pos h2]
        simp only [h1, if_false, Option.bind_some]
        have h0 := vat4 b 0 hb (by omega)
        have h4 := vat4 b 4 hb (by omega)
        have hr := vat_range b 4 4
        unfold wire_EncodeSimple.f
        rw [if_pos (by omega), bev b 0 4 _ (h0.symm.trans h2) hb (by omega) (by omega), bev b 4 4 _ h4.symm hb (by omega) (by omega), bev b 8 8 _ rfl hb (by omega) (by omega), take_cut b 8 8 16 rfl, take_cut b 4 4 8 rfl]
        rfl
      · rw [if_neg h2, if_neg h2]; rfl

/-- What lies behind a head, as the decoders cut it. -/
theorem data_of (b : List Int) (H : Nat) (v : Int) (h0 : 0 ≤ v) (h : (H : Int) + v ≤ b.length) :
    ((b.take ((H : Int) + v).toNat).drop H).length = v.toNat ∧ b.take ((H : Int) + v).toNat = b.take H ++ (b.take ((H : Int) + v).toNat).drop H := by
  refine ⟨by rw [List.length_drop, List.length_take]; omega, ?_⟩
  have := (List.take_append_drop H (b.take ((H : Int) + v).toNat)).symm
  rw [List.take_take, Nat.min_eq_left (by omega)] at this
  exact this

set_option maxRecDepth 4000 in
theorem told_5 (most : Int) (hm : 0 ≤ most ∧ most ≤ 4294967295) : ∃ H z g, Fits H g ∧ ∀ b : List Int, Bytes b → b.length ≤ 140737488355000 → ∀ j, spindlelaw08_told.f (j + 1) 5 b most = some (shape H z g b) := by
  refine ⟨16, ((wire_EncodeOption.f 0 0 false []).getD ([], 0)).1, fun h => if vat h 0 8 = 5280542401877725268 then (if vat h 12 4 % 4294967296 > most then .inl (16, 12, []) else .inr ((16 : Int) + vat h 12 4 % 4294967296).toNat) else .inl (0, 80, ((wire_EncodeOption.f 0 0 false []).getD ([], 0)).1), ⟨by omega, ?_, ?_⟩, ?_⟩
  · intro h r e; (repeat' split at e) <;> simp at e <;> subst e <;> simp
  · intro h n e; (repeat' split at e) <;> simp at e <;> (have := (vat_range h 12 4).1; omega)
  · intro b hb hl j
    unfold spindlelaw08_told.f shape wire_DecodeOption.f spindlelaw08_num.f
    rw [if_neg (by decide), if_neg (by decide), if_neg (by decide), if_neg (by decide), if_neg (by decide), if_pos rfl, if_pos hl]
    dsimp only
    rw [vat_head b 16 0 8 (by omega), vat_head b 16 12 4 (by omega)]
    by_cases h1 : b.length < 16
    · rw [if_pos h1, if_pos h1]; rfl
    · rw [if_neg h1, if_neg h1]
      by_cases h2 : vat b 0 8 = 5280542401877725268
      · rw [if_pos h2, if_pos h2]
        by_cases h3 : vat b 12 4 % 4294967296 > most
        · rw [if_pos h3, if_pos h3]
          have r8 := vat_range b 8 4
          have r12 := vat_range b 12 4
          simp only [Option.bind_some]
          unfold wire_EncodeOption.f
          rw [if_pos (by simp; omega), if_pos rfl]; rfl
        · rw [if_neg h3, if_neg h3]
          have rl := (vat_range b 12 4).1
          by_cases h4 : (b.length : Int) < 16 + vat b 12 4 % 4294967296
          · rw [if_pos h4]
            have h4' : b.length < ((16 : Int) + vat b 12 4 % 4294967296).toNat := by omega
            simp only [h4', if_true, Option.bind_some]
            have e4 : ((((16 : Int) + vat b 12 4 % 4294967296).toNat : Nat) : Int) = 16 + vat b 12 4 % 4294967296 := by omega
            rw [e4]; rfl
          · rw [if_neg h4]
            have h4' : ¬ b.length < ((16 : Int) + vat b 12 4 % 4294967296).toNat := by omega
            simp only [h4', if_false, Option.bind_some]
            have e4 : ((((16 : Int) + vat b 12 4 % 4294967296).toNat : Nat) : Int) = 16 + vat b 12 4 % 4294967296 := by omega
            rw [e4]
            obtain ⟨d1, d2⟩ := data_of b 16 (vat b 12 4 % 4294967296) (by omega) (by omega)
            rw [show (16 : Int).toNat = 16 from rfl]
            change ((b.take (16 + vat b 12 4 % 4294967296).toNat).drop 16).length = _ at d1
            change b.take (16 + vat b 12 4 % 4294967296).toNat = b.take 16 ++ (b.take (16 + vat b 12 4 % 4294967296).toNat).drop 16 at d2
            have r0 := vat_range b 0 8
            have h8 := vat4 b 8 hb (by omega)
            have r8 := vat_range b 8 4
            have h12 := vat4 b 12 hb (by omega)
            have r12 := vat_range b 12 4
            generalize (b.take (16 + vat b 12 4 % 4294967296).toNat).drop 16 = ds at d1 d2 ⊢
            rw [d2]
            unfold wire_EncodeOption.f
            rw [if_pos (by refine ⟨by omega, by omega, by omega⟩), if_neg (by decide), if_pos (by omega)]
            simp only [Option.bind_some]
            rw [bev b 0 8 _ h2 hb (by omega) (by omega), bev b 8 4 _ h8.symm hb (by omega) (by omega), bev b 12 4 _ h12.symm hb (by omega) (by omega), take_cut b 12 4 16 rfl, take_cut b 8 4 12 rfl]
            simp
      · rw [if_neg h2, if_neg h2]; rfl

set_option maxRecDepth 4000 in
theorem told_6 (most : Int) (hm : 0 ≤ most ∧ most ≤ 4294967295) : ∃ H z g, Fits H g ∧ ∀ b : List Int, Bytes b → b.length ≤ 140737488355000 → ∀ j, spindlelaw08_told.f (j + 1) 6 b most = some (shape H z g b) := by
  refine ⟨20, (wire_EncodeReply.f 0 0 []).getD [], fun h => if vat h 0 8 = 1100100111001001 then (if vat h 16 4 % 4294967296 > most then .inl (20, 12, ((wire_EncodeReply.f (vat h 8 4 % 4294967296) (vat h 12 4 % 4294967296) []).getD [])) else .inr ((20 : Int) + vat h 16 4 % 4294967296).toNat) else .inl (0, 80, (wire_EncodeReply.f 0 0 []).getD []), ⟨by omega, ?_, ?_⟩, ?_⟩
  · intro h r e; (repeat' split at e) <;> simp at e <;> subst e <;> simp
  · intro h n e; (repeat' split at e) <;> simp at e <;> (have := (vat_range h 16 4).1; omega)
  · intro b hb hl j
    unfold spindlelaw08_told.f shape wire_DecodeReply.f spindlelaw08_num.f
    rw [if_neg (by decide), if_neg (by decide), if_neg (by decide), if_neg (by decide), if_neg (by decide), if_neg (by decide), if_pos rfl, if_pos hl]
    dsimp only
    rw [vat_head b 20 0 8 (by omega), vat_head b 20 16 4 (by omega)]
    by_cases h1 : b.length < 20
    · rw [if_pos h1, if_pos h1]; rfl
    · rw [if_neg h1, if_neg h1]
      by_cases h2 : vat b 0 8 = 1100100111001001
      · rw [if_pos h2, if_pos h2]
        by_cases h3 : vat b 16 4 % 4294967296 > most
        · rw [if_pos h3, if_pos h3]
          have r8 := vat_range b 8 4
          have r12 := vat_range b 12 4
          simp only [Option.bind_some, vat_head b 20 8 4 (by omega), vat_head b 20 12 4 (by omega)]
          unfold wire_EncodeReply.f
          rw [if_pos (by simp; omega)]; rfl
        · rw [if_neg h3, if_neg h3]
          have rl := (vat_range b 16 4).1
          by_cases h4 : (b.length : Int) < 20 + vat b 16 4 % 4294967296
          · rw [if_pos h4]
            have h4' : b.length < ((20 : Int) + vat b 16 4 % 4294967296).toNat := by omega
            simp only [h4', if_true, Option.bind_some]
            have e4 : ((((20 : Int) + vat b 16 4 % 4294967296).toNat : Nat) : Int) = 20 + vat b 16 4 % 4294967296 := by omega
            rw [e4]; rfl
          · rw [if_neg h4]
            have h4' : ¬ b.length < ((20 : Int) + vat b 16 4 % 4294967296).toNat := by omega
            simp only [h4', if_false, Option.bind_some]
            have e4 : ((((20 : Int) + vat b 16 4 % 4294967296).toNat : Nat) : Int) = 20 + vat b 16 4 % 4294967296 := by omega
            rw [e4]
            obtain ⟨d1, d2⟩ := data_of b 20 (vat b 16 4 % 4294967296) (by omega) (by omega)
            rw [show (20 : Int).toNat = 20 from rfl]
            change ((b.take (20 + vat b 16 4 % 4294967296).toNat).drop 20).length = _ at d1
            change b.take (20 + vat b 16 4 % 4294967296).toNat = b.take 20 ++ (b.take (20 + vat b 16 4 % 4294967296).toNat).drop 20 at d2
            have r0 := vat_range b 0 8
            have h8 := vat4 b 8 hb (by omega)
            have r8 := vat_range b 8 4
            have h12 := vat4 b 12 hb (by omega)
            have r12 := vat_range b 12 4
            have h16 := vat4 b 16 hb (by omega)
            have r16 := vat_range b 16 4
            generalize (b.take (20 + vat b 16 4 % 4294967296).toNat).drop 20 = ds at d1 d2 ⊢
            rw [d2]
            unfold wire_EncodeReply.f
            rw [if_pos (by refine ⟨by omega, by omega, by omega⟩), show ((ds.length : Int) % 4294967296) = vat b 16 4 % 4294967296 from by omega]
            simp only [Option.bind_some]
            rw [bev b 0 8 _ h2 hb (by omega) (by omega), bev b 8 4 _ h8.symm hb (by omega) (by omega), bev b 12 4 _ h12.symm hb (by omega) (by omega), bev b 16 4 _ h16.symm hb (by omega) (by omega), take_cut b 16 4 20 rfl, take_cut b 12 4 16 rfl, take_cut b 8 4 12 rfl]
            simp
      · rw [if_neg h2, if_neg h2]; rfl

set_option maxRecDepth 4000 in
theorem told_7 (most : Int) (hm : 0 ≤ most ∧ most ≤ 4294967295) : ∃ H z g, Fits H g ∧ ∀ b : List Int, Bytes b → b.length ≤ 140737488355000 → ∀ j, spindlelaw08_told.f (j + 1) 7 b most = some (shape H z g b) := by
  refine ⟨28, ((wire_EncodeRequest.f 0 0 0 0 0 [] false).getD ([], 0)).1, fun h => if vat h 0 4 % 4294967296 = 627086611 then (if paidB (vat h 4 2 % 65536) (vat h 6 2 % 65536) false = false then .inr 28 else if vat h 24 4 % 4294967296 > most then .inl (28, 12, []) else .inr ((28 : Int) + vat h 24 4 % 4294967296).toNat) else .inl (0, 80, ((wire_EncodeRequest.f 0 0 0 0 0 [] false).getD ([], 0)).1), ⟨by omega, ?_, ?_⟩, ?_⟩
  · intro h r e; (repeat' split at e) <;> simp at e <;> subst e <;> simp
  · intro h n e; (repeat' split at e) <;> simp at e <;> (have := (vat_range h 24 4).1; omega)
  · intro b hb hl j
    unfold spindlelaw08_told.f shape
    rw [if_neg (by decide), if_neg (by decide), if_neg (by decide), if_neg (by decide), if_neg (by decide), if_neg (by decide), if_neg (by decide), if_pos rfl]
    have jx : spindlelaw08_told.j0 (j + 1) 7 b most ((7 : Int) == 7) = spindlelaw08_told.j0 (j + 1) 7 b most true := rfl
    rw [jx, spindlelaw08_told.j0]
    unfold spindlelaw08_num.f
    have kx : ((7 : Int) == 8) = false := rfl
    rw [kx, if_pos rfl]
    unfold wire_DecodeRequest.f
    rw [if_pos ⟨hl, hm⟩, if_neg (by decide)]
    dsimp only
    rw [vat_head b 28 0 4 (by omega), vat_head b 28 4 2 (by omega), vat_head b 28 6 2 (by omega), vat_head b 28 24 4 (by omega)]
    by_cases h1 : b.length < 28
    · rw [if_pos h1, if_pos h1]; rfl
    · rw [if_neg h1, if_neg h1]
      by_cases h2 : vat b 0 4 % 4294967296 = 627086611
      · rw [if_pos h2, if_pos h2]
        by_cases hp : paidB (vat b 4 2 % 65536) (vat b 6 2 % 65536) false = false
        · rw [if_pos hp, if_pos hp]
          simp only [h1, if_false, Option.bind_some]
          have h0 := vat4 b 0 hb (by omega)
          have r0 := vat_range b 0 4
          have h4 := vat2 b 4 hb (by omega)
          have r4 := vat_range b 4 2
          have h6 := vat2 b 6 hb (by omega)
          have r6 := vat_range b 6 2
          have r8 := vat_range b 8 8
          have r16 := vat_range b 16 8
          have h24 := vat4 b 24 hb (by omega)
          have r24 := vat_range b 24 4
          unfold wire_EncodeRequest.f
          rw [if_pos (by simp; omega), if_pos (by rw [hp]; rfl), if_neg (by omega), if_neg (by decide), if_neg (by decide)]
          simp only [Option.bind_some]
          rw [bev b 0 4 _ (h0.symm.trans h2) hb (by omega) (by omega), bev b 4 2 _ h4.symm hb (by omega) (by omega), bev b 6 2 _ h6.symm hb (by omega) (by omega), bev b 8 8 _ rfl hb (by omega) (by omega), bev b 16 8 _ rfl hb (by omega) (by omega), bev b 24 4 _ h24.symm hb (by omega) (by omega), take_cut b 24 4 28 rfl, take_cut b 16 8 24 rfl, take_cut b 8 8 16 rfl, take_cut b 6 2 8 rfl, take_cut b 4 2 6 rfl]
          simp
        rw [if_neg hp, if_neg hp]
        by_cases h3 : vat b 24 4 % 4294967296 > most
        · rw [if_pos h3, if_pos h3]
          have hpt : paidB (vat b 4 2 % 65536) (vat b 6 2 % 65536) false = true := by simpa using hp
          simp only [Option.bind_some]
          unfold wire_EncodeRequest.f
          have r24 := vat_range b 24 4
          rw [if_pos (by simp; omega), if_neg (by rw [hpt]; simp; omega)]; rfl
        · rw [if_neg h3, if_neg h3]
          have rl := (vat_range b 24 4).1
          by_cases h4 : (b.length : Int) < 28 + vat b 24 4 % 4294967296
          · rw [if_pos h4]
            have h4' : b.length < ((28 : Int) + vat b 24 4 % 4294967296).toNat := by omega
            simp only [h4', if_true, Option.bind_some]
            have e4 : ((((28 : Int) + vat b 24 4 % 4294967296).toNat : Nat) : Int) = 28 + vat b 24 4 % 4294967296 := by omega
            rw [e4]; rfl
          · rw [if_neg h4]
            have h4' : ¬ b.length < ((28 : Int) + vat b 24 4 % 4294967296).toNat := by omega
            simp only [h4', if_false, Option.bind_some]
            have e4 : ((((28 : Int) + vat b 24 4 % 4294967296).toNat : Nat) : Int) = 28 + vat b 24 4 % 4294967296 := by omega
            rw [e4]
            obtain ⟨d1, d2⟩ := data_of b 28 (vat b 24 4 % 4294967296) (by omega) (by omega)
            rw [show (28 : Int).toNat = 28 from rfl]
            change ((b.take (28 + vat b 24 4 % 4294967296).toNat).drop 28).length = _ at d1
            change b.take (28 + vat b 24 4 % 4294967296).toNat = b.take 28 ++ (b.take (28 + vat b 24 4 % 4294967296).toNat).drop 28 at d2
            have h0 := vat4 b 0 hb (by omega)
            have r0 := vat_range b 0 4
            have h4 := vat2 b 4 hb (by omega)
            have r4 := vat_range b 4 2
            have h6 := vat2 b 6 hb (by omega)
            have r6 := vat_range b 6 2
            have r8 := vat_range b 8 8
            have r16 := vat_range b 16 8
            have h24 := vat4 b 24 hb (by omega)
            have r24 := vat_range b 24 4
            generalize (b.take (28 + vat b 24 4 % 4294967296).toNat).drop 28 = ds at d1 d2 ⊢
            rw [d2]
            unfold wire_EncodeRequest.f
            rw [if_pos (by refine ⟨by omega, by omega, by omega, by omega⟩), if_pos (by rw [if_pos (by simpa using hp)]; omega), if_neg (by omega), if_neg (by decide), if_neg (by decide)]
            simp only [Option.bind_some]
            rw [bev b 0 4 _ (h0.symm.trans h2) hb (by omega) (by omega), bev b 4 2 _ h4.symm hb (by omega) (by omega), bev b 6 2 _ h6.symm hb (by omega) (by omega), bev b 8 8 _ rfl hb (by omega) (by omega), bev b 16 8 _ rfl hb (by omega) (by omega), bev b 24 4 _ h24.symm hb (by omega) (by omega), take_cut b 24 4 28 rfl, take_cut b 16 8 24 rfl, take_cut b 8 8 16 rfl, take_cut b 6 2 8 rfl, take_cut b 4 2 6 rfl]
            simp
      · rw [if_neg h2, if_neg h2]; rfl

set_option maxRecDepth 4000 in
theorem told_8 (most : Int) (hm : 0 ≤ most ∧ most ≤ 4294967295) : ∃ H z g, Fits H g ∧ ∀ b : List Int, Bytes b → b.length ≤ 140737488355000 → ∀ j, spindlelaw08_told.f (j + 1) 8 b most = some (shape H z g b) := by
  refine ⟨32, ((wire_EncodeRequest.f 0 0 0 0 0 [] true).getD ([], 0)).1, fun h => if vat h 0 4 % 4294967296 = 568597617 then (if paidB (vat h 4 2 % 65536) (vat h 6 2 % 65536) true = false then .inr 32 else if vat h 24 8 > most then .inl (32, 12, []) else .inr ((32 : Int) + vat h 24 8).toNat) else .inl (0, 80, ((wire_EncodeRequest.f 0 0 0 0 0 [] true).getD ([], 0)).1), ⟨by omega, ?_, ?_⟩, ?_⟩
  · intro h r e; (repeat' split at e) <;> simp at e <;> subst e <;> simp
  · intro h n e; (repeat' split at e) <;> simp at e <;> (have := (vat_range h 24 8).1; omega)
  · intro b hb hl j
    unfold spindlelaw08_told.f shape
    rw [if_neg (by decide), if_neg (by decide), if_neg (by decide), if_neg (by decide), if_neg (by decide), if_neg (by decide), if_neg (by decide), if_neg (by decide)]
    have jx : spindlelaw08_told.j0 (j + 1) 8 b most ((8 : Int) == 8) = spindlelaw08_told.j0 (j + 1) 8 b most true := rfl
    rw [jx, spindlelaw08_told.j0]
    unfold spindlelaw08_num.f
    have kx : ((8 : Int) == 8) = true := rfl
    rw [kx, if_pos rfl]
    unfold wire_DecodeRequest.f
    rw [if_pos ⟨hl, hm⟩, if_pos rfl]
    dsimp only
    rw [vat_head b 32 0 4 (by omega), vat_head b 32 4 2 (by omega), vat_head b 32 6 2 (by omega), vat_head b 32 24 8 (by omega)]
    by_cases h1 : b.length < 32
    · rw [if_pos h1, if_pos h1]; rfl
    · rw [if_neg h1, if_neg h1]
      by_cases h2 : vat b 0 4 % 4294967296 = 568597617
      · rw [if_pos h2, if_pos h2]
        by_cases hp : paidB (vat b 4 2 % 65536) (vat b 6 2 % 65536) true = false
        · rw [if_pos hp, if_pos hp]
          simp only [h1, if_false, Option.bind_some]
          have h0 := vat4 b 0 hb (by omega)
          have r0 := vat_range b 0 4
          have h4 := vat2 b 4 hb (by omega)
          have r4 := vat_range b 4 2
          have h6 := vat2 b 6 hb (by omega)
          have r6 := vat_range b 6 2
          have r8 := vat_range b 8 8
          have r16 := vat_range b 16 8
          have r24 := vat_range b 24 8
          unfold wire_EncodeRequest.f
          rw [if_pos (by simp; omega), if_pos (by rw [hp]; rfl), if_neg (by intro h; exact absurd h.1 (by decide)), if_pos rfl, if_pos rfl]
          simp only [Option.bind_some]
          rw [bev b 0 4 _ (h0.symm.trans h2) hb (by omega) (by omega), bev b 4 2 _ h4.symm hb (by omega) (by omega), bev b 6 2 _ h6.symm hb (by omega) (by omega), bev b 8 8 _ rfl hb (by omega) (by omega), bev b 16 8 _ rfl hb (by omega) (by omega), bev b 24 8 _ rfl hb (by omega) (by omega), take_cut b 24 8 32 rfl, take_cut b 16 8 24 rfl, take_cut b 8 8 16 rfl, take_cut b 6 2 8 rfl, take_cut b 4 2 6 rfl]
          simp
        rw [if_neg hp, if_neg hp]
        by_cases h3 : vat b 24 8 > most
        · rw [if_pos h3, if_pos h3]
          have hpt : paidB (vat b 4 2 % 65536) (vat b 6 2 % 65536) true = true := by simpa using hp
          simp only [Option.bind_some]
          unfold wire_EncodeRequest.f
          have r24 := vat_range b 24 8
          rw [if_pos (by simp; omega), if_neg (by rw [hpt]; simp; omega)]; rfl
        · rw [if_neg h3, if_neg h3]
          have rl := (vat_range b 24 8).1
          by_cases h4 : (b.length : Int) < 32 + vat b 24 8
          · rw [if_pos h4]
            have h4' : b.length < ((32 : Int) + vat b 24 8).toNat := by omega
            simp only [h4', if_true, Option.bind_some]
            have e4 : ((((32 : Int) + vat b 24 8).toNat : Nat) : Int) = 32 + vat b 24 8 := by omega
            rw [e4]; rfl
          · rw [if_neg h4]
            have h4' : ¬ b.length < ((32 : Int) + vat b 24 8).toNat := by omega
            simp only [h4', if_false, Option.bind_some]
            have e4 : ((((32 : Int) + vat b 24 8).toNat : Nat) : Int) = 32 + vat b 24 8 := by omega
            rw [e4]
            obtain ⟨d1, d2⟩ := data_of b 32 (vat b 24 8) (by omega) (by omega)
            rw [show (32 : Int).toNat = 32 from rfl]
            change ((b.take (32 + vat b 24 8).toNat).drop 32).length = _ at d1
            change b.take (32 + vat b 24 8).toNat = b.take 32 ++ (b.take (32 + vat b 24 8).toNat).drop 32 at d2
            have h0 := vat4 b 0 hb (by omega)
            have r0 := vat_range b 0 4
            have h4 := vat2 b 4 hb (by omega)
            have r4 := vat_range b 4 2
            have h6 := vat2 b 6 hb (by omega)
            have r6 := vat_range b 6 2
            have r8 := vat_range b 8 8
            have r16 := vat_range b 16 8
            have r24 := vat_range b 24 8
            generalize (b.take (32 + vat b 24 8).toNat).drop 32 = ds at d1 d2 ⊢
            rw [d2]
            unfold wire_EncodeRequest.f
            rw [if_pos (by refine ⟨by omega, by omega, by omega, by omega⟩), if_pos (by rw [if_pos (by simpa using hp)]; omega), if_neg (by intro h; exact absurd h.1 (by decide)), if_pos rfl, if_pos rfl]
            simp only [Option.bind_some]
            rw [bev b 0 4 _ (h0.symm.trans h2) hb (by omega) (by omega), bev b 4 2 _ h4.symm hb (by omega) (by omega), bev b 6 2 _ h6.symm hb (by omega) (by omega), bev b 8 8 _ rfl hb (by omega) (by omega), bev b 16 8 _ rfl hb (by omega) (by omega), bev b 24 8 _ rfl hb (by omega) (by omega), take_cut b 24 8 32 rfl, take_cut b 16 8 24 rfl, take_cut b 8 8 16 rfl, take_cut b 6 2 8 rfl, take_cut b 4 2 6 rfl]
            simp
      · rw [if_neg h2, if_neg h2]; rfl

set_option maxRecDepth 4000 in
theorem told_9 (most : Int) (hm : 0 ≤ most ∧ most ≤ 4294967295) : ∃ H z g, Fits H g ∧ ∀ b : List Int, Bytes b → b.length ≤ 140737488355000 → ∀ j, spindlelaw08_told.f (j + 1) 9 b most = some (shape H z g b) := by
  refine ⟨20, (wire_EncodeChunk.f 0 0 0 0 [] false).getD [], fun h => if vat h 0 4 % 4294967296 = 1720595439 then (if vat h 16 4 % 4294967296 > most then .inl (20, 12, (wire_EncodeChunk.f (vat h 4 2 % 65536) (vat h 6 2 % 65536) (vat h 8 8) (0) [] false).getD []) else .inr ((20 : Int) + vat h 16 4 % 4294967296).toNat) else .inl (0, 80, (wire_EncodeChunk.f 0 0 0 0 [] false).getD []), ⟨by omega, ?_, ?_⟩, ?_⟩
  · intro h r e; (repeat' split at e) <;> simp at e <;> subst e <;> simp
  · intro h n e; (repeat' split at e) <;> simp at e <;> (have := (vat_range h 16 4).1; omega)
  · intro b hb hl j
    unfold spindlelaw08_told.f shape
    rw [if_neg (by decide), if_neg (by decide), if_neg (by decide), if_neg (by decide), if_neg (by decide), if_neg (by decide), if_neg (by decide), if_neg (by decide)]
    have jx : spindlelaw08_told.j0 (j + 1) 9 b most ((9 : Int) == 8) = spindlelaw08_told.j0 (j + 1) 9 b most false := rfl
    rw [jx, spindlelaw08_told.j0]
    unfold spindlelaw08_num.f
    have kx : ((9 : Int) == 10) = false := rfl
    rw [kx, if_neg (by decide)]
    unfold wire_DecodeChunk.f
    rw [if_pos ⟨hl, hm⟩, if_neg (by decide)]
    dsimp only
    rw [vat_head b 20 0 4 (by omega), vat_head b 20 16 4 (by omega)]
    by_cases h1 : b.length < 20
    · rw [if_pos h1, if_pos h1]; rfl
    · rw [if_neg h1, if_neg h1]
      by_cases h2 : vat b 0 4 % 4294967296 = 1720595439
      · rw [if_pos h2, if_pos h2]
        by_cases h3 : vat b 16 4 % 4294967296 > most
        · rw [if_pos h3, if_pos h3]
          simp only [Option.bind_some, vat_head b 20 4 2 (by omega), vat_head b 20 6 2 (by omega), vat_head b 20 8 8 (by omega)]
          unfold wire_EncodeChunk.f
          rw [if_pos (by simp; omega), if_neg (by decide)]; rfl
        · rw [if_neg h3, if_neg h3]
          have rl := (vat_range b 16 4).1
          by_cases h4 : (b.length : Int) < 20 + vat b 16 4 % 4294967296
          · rw [if_pos h4]
            have h4' : b.length < ((20 : Int) + vat b 16 4 % 4294967296).toNat := by omega
            simp only [h4', if_true, Option.bind_some]
            have e4 : ((((20 : Int) + vat b 16 4 % 4294967296).toNat : Nat) : Int) = 20 + vat b 16 4 % 4294967296 := by omega
            rw [e4]; rfl
          · rw [if_neg h4]
            have h4' : ¬ b.length < ((20 : Int) + vat b 16 4 % 4294967296).toNat := by omega
            simp only [h4', if_false, Option.bind_some]
            have e4 : ((((20 : Int) + vat b 16 4 % 4294967296).toNat : Nat) : Int) = 20 + vat b 16 4 % 4294967296 := by omega
            rw [e4]
            obtain ⟨d1, d2⟩ := data_of b 20 (vat b 16 4 % 4294967296) (by omega) (by omega)
            rw [show (20 : Int).toNat = 20 from rfl]
            change ((b.take (20 + vat b 16 4 % 4294967296).toNat).drop 20).length = _ at d1
            change b.take (20 + vat b 16 4 % 4294967296).toNat = b.take 20 ++ (b.take (20 + vat b 16 4 % 4294967296).toNat).drop 20 at d2
            have h0 := vat4 b 0 hb (by omega)
            have r0 := vat_range b 0 4
            have h4 := vat2 b 4 hb (by omega)
            have r4 := vat_range b 4 2
            have h6 := vat2 b 6 hb (by omega)
            have r6 := vat_range b 6 2
            have r8 := vat_range b 8 8
            have h16 := vat4 b 16 hb (by omega)
            have r16 := vat_range b 16 4
            generalize (b.take (20 + vat b 16 4 % 4294967296).toNat).drop 20 = ds at d1 d2 ⊢
            rw [d2]
            unfold wire_EncodeChunk.f
            rw [if_pos (by refine ⟨by omega, by omega, by omega⟩), if_neg (by decide), show ((ds.length : Int) % 4294967296) = vat b 16 4 % 4294967296 from by omega]
            simp only [Option.bind_some]
            rw [bev b 0 4 _ (h0.symm.trans h2) hb (by omega) (by omega), bev b 4 2 _ h4.symm hb (by omega) (by omega), bev b 6 2 _ h6.symm hb (by omega) (by omega), bev b 8 8 _ rfl hb (by omega) (by omega), bev b 16 4 _ h16.symm hb (by omega) (by omega), take_cut b 16 4 20 rfl, take_cut b 8 8 16 rfl, take_cut b 6 2 8 rfl, take_cut b 4 2 6 rfl]
            simp
      · rw [if_neg h2, if_neg h2]; rfl

set_option maxRecDepth 4000 in
theorem told_10 (most : Int) (hm : 0 ≤ most ∧ most ≤ 4294967295) : ∃ H z g, Fits H g ∧ ∀ b : List Int, Bytes b → b.length ≤ 140737488355000 → ∀ j, spindlelaw08_told.f (j + 1) 10 b most = some (shape H z g b) := by
  refine ⟨32, (wire_EncodeChunk.f 0 0 0 0 [] true).getD [], fun h => if vat h 0 4 % 4294967296 = 1854547852 then (if vat h 24 8 > most then .inl (32, 12, (wire_EncodeChunk.f (vat h 4 2 % 65536) (vat h 6 2 % 65536) (vat h 8 8) (vat h 16 8) [] true).getD []) else .inr ((32 : Int) + vat h 24 8).toNat) else .inl (0, 80, (wire_EncodeChunk.f 0 0 0 0 [] true).getD []), ⟨by omega, ?_, ?_⟩, ?_⟩
  · intro h r e; (repeat' split at e) <;> simp at e <;> subst e <;> simp
  · intro h n e; (repeat' split at e) <;> simp at e <;> (have := (vat_range h 24 8).1; omega)
  · intro b hb hl j
    unfold spindlelaw08_told.f shape
    rw [if_neg (by decide), if_neg (by decide), if_neg (by decide), if_neg (by decide), if_neg (by decide), if_neg (by decide), if_neg (by decide), if_neg (by decide)]
    have jx : spindlelaw08_told.j0 (j + 1) 10 b most ((10 : Int) == 8) = spindlelaw08_told.j0 (j + 1) 10 b most false := rfl
    rw [jx, spindlelaw08_told.j0]
    unfold spindlelaw08_num.f
    have kx : ((10 : Int) == 10) = true := rfl
    rw [kx, if_neg (by decide)]
    unfold wire_DecodeChunk.f
    rw [if_pos ⟨hl, hm⟩, if_pos rfl]
    dsimp only
    rw [vat_head b 32 0 4 (by omega), vat_head b 32 24 8 (by omega)]
    by_cases h1 : b.length < 32
    · rw [if_pos h1, if_pos h1]; rfl
    · rw [if_neg h1, if_neg h1]
      by_cases h2 : vat b 0 4 % 4294967296 = 1854547852
      · rw [if_pos h2, if_pos h2]
        by_cases h3 : vat b 24 8 > most
        · rw [if_pos h3, if_pos h3]
          simp only [Option.bind_some, vat_head b 32 4 2 (by omega), vat_head b 32 6 2 (by omega), vat_head b 32 8 8 (by omega), vat_head b 32 16 8 (by omega)]
          unfold wire_EncodeChunk.f
          rw [if_pos (by simp; omega), if_pos rfl]; rfl
        · rw [if_neg h3, if_neg h3]
          have rl := (vat_range b 24 8).1
          by_cases h4 : (b.length : Int) < 32 + vat b 24 8
          · rw [if_pos h4]
            have h4' : b.length < ((32 : Int) + vat b 24 8).toNat := by omega
            simp only [h4', if_true, Option.bind_some]
            have e4 : ((((32 : Int) + vat b 24 8).toNat : Nat) : Int) = 32 + vat b 24 8 := by omega
            rw [e4]; rfl
          · rw [if_neg h4]
            have h4' : ¬ b.length < ((32 : Int) + vat b 24 8).toNat := by omega
            simp only [h4', if_false, Option.bind_some]
            have e4 : ((((32 : Int) + vat b 24 8).toNat : Nat) : Int) = 32 + vat b 24 8 := by omega
            rw [e4]
            obtain ⟨d1, d2⟩ := data_of b 32 (vat b 24 8) (by omega) (by omega)
            rw [show (32 : Int).toNat = 32 from rfl]
            change ((b.take (32 + vat b 24 8).toNat).drop 32).length = _ at d1
            change b.take (32 + vat b 24 8).toNat = b.take 32 ++ (b.take (32 + vat b 24 8).toNat).drop 32 at d2
            have h0 := vat4 b 0 hb (by omega)
            have r0 := vat_range b 0 4
            have h4 := vat2 b 4 hb (by omega)
            have r4 := vat_range b 4 2
            have h6 := vat2 b 6 hb (by omega)
            have r6 := vat_range b 6 2
            have r8 := vat_range b 8 8
            have r16 := vat_range b 16 8
            have r24 := vat_range b 24 8
            generalize (b.take (32 + vat b 24 8).toNat).drop 32 = ds at d1 d2 ⊢
            rw [d2]
            unfold wire_EncodeChunk.f
            rw [if_pos (by refine ⟨by omega, by omega, by omega⟩), if_pos rfl, show (ds.length : Int) = vat b 24 8 from by omega]
            simp only [Option.bind_some]
            rw [bev b 0 4 _ (h0.symm.trans h2) hb (by omega) (by omega), bev b 4 2 _ h4.symm hb (by omega) (by omega), bev b 6 2 _ h6.symm hb (by omega) (by omega), bev b 8 8 _ rfl hb (by omega) (by omega), bev b 16 8 _ rfl hb (by omega) (by omega), bev b 24 8 _ rfl hb (by omega) (by omega), take_cut b 24 8 32 rfl, take_cut b 16 8 24 rfl, take_cut b 8 8 16 rfl, take_cut b 6 2 8 rfl, take_cut b 4 2 6 rfl]
            simp
      · rw [if_neg h2, if_neg h2]; rfl

end Go.Proofs.Ytilgfhiomcfmhaa.Pure
