/- Greeting, Flags, Export, Simple: their bytes are the document's, and are read again, whatever stands behind. -/
import Derived.Test.YtilgfhiomcfmhaaPureFixed
import Derived.Test.YtilgfhiomcfmhaaPZx6
namespace Go.Proofs.Ytilgfhiomcfmhaa.PureZ
open Go.RowKit Go.Proofs.Ytilgfhiomcfmhaa.Hand Go.Proofs.Ytilgfhiomcfmhaa.PZ Go.Proofs.Ytilgfhiomcfmhaa.Octa Go.Proofs.Ytilgfhiomcfmhaa.Octa Go.Proofs.YtilgfhiomcfmhaaW.PrintWords Go.Proofs.YtilgfhiomcfmhaaW.PrintLast

set_option linter.unusedSimpArgs false
theorem u64_up {a : Int} (h0 : 0 ≤ a) (h1 : a < 18446744073709551616) : IntKind.u64.wrap a = a := by
  first | exact IntWalk.u64_in _ (by omega) | (simp [IntKind.wrap, IntKind.bits, IntKind.signed]; omega) | (simp [IntKind.wrap, IntKind.bits]; omega)

theorem greet (g : Int) (h0 : 0 ≤ g) (h1 : g ≤ 65535) (k : Nat) (hk : 30 ≤ k) : ∃ A, wire_EncodeGreeting.f g = some A ∧ spindleref08_Greeting.f k g = some A ∧ A.length = 18 ∧ ∀ more : List Int, more.length ≤ 140737488351232 → wire_DecodeGreeting.f (A ++ more) = some (g, 18, 0) := by
  refine ⟨be 5639144782019643715 8 ++ be 5280542401877725268 8 ++ be g 2, ?_, ?_, by simp [be_length], ?_⟩
  · unfold wire_EncodeGreeting.f
    rw [if_pos ⟨h0, h1⟩]
  · unfold spindleref08_Greeting.f
    rw [lay_is _ _ (by simp) (by simp) (by simp) k (by simp; omega), u64_up h0 (by omega)]
    simp [lays]
  · intro more hm
    have e0 := vat_be 5639144782019643715 [] (be 5280542401877725268 8 ++ be g 2 ++ more) 0 8 rfl (by decide) (by decide) (by decide)
    have e1 := vat_be 5280542401877725268 (be 5639144782019643715 8) (be g 2 ++ more) 8 8 (be_length _ _) (by decide) (by decide) (by decide)
    have e2 := vat_be g (be 5639144782019643715 8 ++ be 5280542401877725268 8) more 16 2 (by simp [be_length]) (by decide) h0 (by omega)
    simp only [List.nil_append, List.append_assoc] at e0 e1 e2
    unfold wire_DecodeGreeting.f
    simp only [List.append_assoc]
    rw [if_pos (by simp [be_length]; omega), if_neg (by simp [be_length]; omega), e0, if_pos rfl, e1, if_pos rfl, e2]
    rw [show g % 65536 = g from by omega]

theorem flags (f : Int) (h0 : 0 ≤ f) (h1 : f ≤ 4294967295) (k : Nat) (hk : 30 ≤ k) : ∃ A, wire_EncodeFlags.f f = some A ∧ spindleref08_Flags.f k f = some A ∧ A.length = 4 ∧ ∀ more : List Int, more.length ≤ 140737488351232 → wire_DecodeFlags.f (A ++ more) = some (f, 4, 0) := by
  refine ⟨be f 4, ?_, ?_, by simp [be_length], ?_⟩
  · unfold wire_EncodeFlags.f
    rw [if_pos ⟨h0, h1⟩]
  · unfold spindleref08_Flags.f
    have hb := big_is f 4 (by decide) k (by omega)
    rw [u64_up h0 (by omega), show (4 : Int) = ((4 : Nat) : Int) from rfl, hb]
    rfl
  · intro more hm
    have e0 := vat_be f [] more 0 4 rfl (by decide) h0 (by omega)
    simp only [List.nil_append, List.append_assoc] at e0
    unfold wire_DecodeFlags.f
    rw [if_pos (by simp [be_length]; omega), if_neg (by simp [be_length]), e0]
    rw [show f % 4294967296 = f from by omega]

theorem simple (a b : Int) (h0 : 0 ≤ a) (h1 : a ≤ 4294967295) (h2 : 0 ≤ b) (h3 : b ≤ 18446744073709551615) (k : Nat) (hk : 30 ≤ k) : ∃ A, wire_EncodeSimple.f a b = some A ∧ spindleref08_Simple.f k a b = some A ∧ A.length = 16 ∧ ∀ more : List Int, more.length ≤ 140737488351232 → wire_DecodeSimple.f (A ++ more) = some (a, b, 16, 0) := by
  refine ⟨be 1732535960 4 ++ be a 4 ++ be b 8, ?_, ?_, by simp [be_length], ?_⟩
  · unfold wire_EncodeSimple.f
    rw [if_pos ⟨h0, h1⟩]
  · unfold spindleref08_Simple.f
    rw [lay_is _ _ (by simp) (by simp) (by simp) k (by simp; omega), u64_up h0 (by omega)]
    simp [lays]
  · intro more hm
    have e0 := vat_be 1732535960 [] (be a 4 ++ be b 8 ++ more) 0 4 rfl (by decide) (by decide) (by decide)
    have e1 := vat_be a (be 1732535960 4) (be b 8 ++ more) 4 4 (be_length _ _) (by decide) h0 (by omega)
    have e2 := vat_be b (be 1732535960 4 ++ be a 4) more 8 8 (by simp [be_length]) (by decide) h2 (by omega)
    simp only [List.nil_append, List.append_assoc] at e0 e1 e2
    unfold wire_DecodeSimple.f
    simp only [List.append_assoc]
    rw [if_pos (by simp [be_length]; omega), if_neg (by simp [be_length]; omega), e0, if_pos (by decide), e1, e2]
    rw [show a % 4294967296 = a from by omega]

theorem export_ (a b : Int) (z : Bool) (h0 : 0 ≤ a) (h1 : a ≤ 18446744073709551615) (h2 : 0 ≤ b) (h3 : b ≤ 65535) (k : Nat) (hk : 30 ≤ k) : ∃ A, wire_EncodeExport.f a b z = some A ∧ spindleref08_Export.f k a b z = some A ∧ A.length ≤ 134 ∧ ∀ more : List Int, more.length ≤ 140737488351232 → wire_DecodeExport.f (A ++ more) z = some (a, b, (A.length : Int), 0) := by
  have hlay : spindleref08_Lay.f k ([(⟨a, 8⟩ : S133), (⟨IntKind.u64.wrap b, 2⟩ : S133)] : List S133) ([] : List Int) = some (be a 8 ++ be b 2) := by
    rw [lay_is _ _ (by simp) (by simp) (by simp) k (by simp; omega), u64_up h2 (by omega)]
    simp [lays]
  cases z with
  | false =>
    refine ⟨be a 8 ++ be b 2, ?_, ?_, by simp [be_length], ?_⟩
    · unfold wire_EncodeExport.f
      rw [if_pos ⟨h2, h3⟩, if_neg (by decide)]
    · unfold spindleref08_Export.f
      rw [hlay]
      rfl
    · intro more hm
      have e0 := vat_be a [] (be b 2 ++ more) 0 8 rfl (by decide) h0 (by omega)
      have e1 := vat_be b (be a 8) more 8 2 (be_length _ _) (by decide) h2 (by omega)
      simp only [List.nil_append, List.append_assoc] at e0 e1
      unfold wire_DecodeExport.f
      simp only [List.append_assoc]
      rw [if_pos (by simp [be_length]; omega), if_neg (by decide), if_neg (by simp [be_length]; omega), e0, e1]
      rw [show b % 65536 = b from by omega]
      simp [be_length]
  | true =>
    have hL : (be a 8 ++ be b 2 ++ List.replicate 124 (0 : Int)).length = 134 := by simp [be_length]
    refine ⟨be a 8 ++ be b 2 ++ List.replicate 124 0, ?_, ?_, by simp [be_length], ?_⟩
    · unfold wire_EncodeExport.f
      rw [if_pos ⟨h2, h3⟩, if_pos rfl]
    · unfold spindleref08_Export.f
      rw [hlay]
      simp only [Option.bind_some]
      rw [if_pos True.intro, if_pos (by simp [be_length])]
    · intro more hm
      have hall : (((be a 8 ++ be b 2 ++ List.replicate 124 (0 : Int) ++ more).take 134).drop 10).all (· == 0) = true := by
        rw [List.take_left' hL, List.drop_left' (by simp [be_length])]
        simp
      have hlen : (be a 8 ++ be b 2 ++ List.replicate 124 (0 : Int) ++ more).length = 134 + more.length := by rw [List.length_append, hL]
      have e0 := vat_be a [] (be b 2 ++ List.replicate 124 0 ++ more) 0 8 rfl (by decide) h0 (by omega)
      have e1 := vat_be b (be a 8) (List.replicate 124 0 ++ more) 8 2 (be_length _ _) (by decide) h2 (by omega)
      have a0 : be a 8 ++ be b 2 ++ List.replicate 124 (0 : Int) ++ more = [] ++ be a 8 ++ (be b 2 ++ List.replicate 124 0 ++ more) := by simp only [List.nil_append, List.append_assoc]
      have a1 : be a 8 ++ be b 2 ++ List.replicate 124 (0 : Int) ++ more = be a 8 ++ be b 2 ++ (List.replicate 124 0 ++ more) := by simp only [List.append_assoc]
      rw [← a0] at e0
      rw [← a1] at e1
      unfold wire_DecodeExport.f
      rw [if_pos (by rw [hlen]; omega), if_pos rfl, if_neg (by rw [hlen]; omega), if_pos hall, e0, e1, hL]
      rw [show b % 65536 = b from by omega]
      rfl

theorem WireFixed_pure (g f x0 x1 s0 s1 : Int) (z : Bool) (l : List Int) (g0 : 0 ≤ g) (g1 : g ≤ 65535) (f0 : 0 ≤ f) (f1 : f ≤ 4294967295) (a0 : 0 ≤ x0) (a1 : x0 ≤ 18446744073709551615) (b0 : 0 ≤ x1) (b1 : x1 ≤ 65535)
    (c0 : 0 ≤ s0) (c1 : s0 ≤ 4294967295) (d0 : 0 ≤ s1) (d1 : s1 ≤ 18446744073709551615) (hl : l.length ≤ 140737488351232) : spindlelaw08_WireFixed.f 400 g f x0 x1 z s0 s1 l = some true := by
  obtain ⟨A, EA, RA, LA, DA⟩ := greet g g0 g1 400 (by decide)
  obtain ⟨B, EB, RB, LB, DB⟩ := flags f f0 f1 400 (by decide)
  obtain ⟨C, EC, RC, LC, DC⟩ := export_ x0 x1 z a0 a1 b0 b1 400 (by decide)
  obtain ⟨C', EC', RC', LC', DC'⟩ := export_ x0 x1 z a0 a1 b0 b1 399 (by decide)
  obtain ⟨D, ED, RD, LD, DD⟩ := simple s0 s1 c0 c1 d0 d1 400 (by decide)
  obtain rfl : C' = C := Option.some.inj (EC'.symm.trans EC)
  unfold spindlelaw08_WireFixed.f
  rw [EA, EB, EC, ED, RA, RB, RC, RD]
  simp only [Option.bind_some]
  rw [same_is A (by omega) 400 (by omega), same_is B (by omega) 400 (by omega), same_is C' (by omega) 400 (by omega), same_is D (by omega) 400 (by omega)]
  simp only [Option.bind_some, if_true, Bool.not_true]
  show spindlelaw08_WireFixed.j0 (399 + 1) _ _ _ _ _ _ _ _ _ _ _ _ _ = _
  simp only [spindlelaw08_WireFixed.j0]
  have hA : A.length + l.length < 140737488355328 := by omega
  have hB : B.length + l.length < 140737488355328 := by omega
  have hC : C'.length + l.length < 140737488355328 := by omega
  have hD : D.length + l.length < 140737488355328 := by omega
  rw [if_neg (by decide)]
  simp only [hA, hB, hC, hD, if_true, DA l hl, DB l hl, DC l hl, DD l hl, Option.bind_some]
  simp only [Option.bind_some, spindlelaw08_num.f, RC', alive_ge 399 (by decide)]
  simp [hA, hB, hC, hD]

theorem wf_u16 {x : Int} (h : (Lit.int .u16 x).wf = true) : 0 ≤ x ∧ x ≤ 65535 := by
  have t : (decide ((0 : Int) ≤ x) && decide (x ≤ 65535)) = true := h
  simpa using t
theorem wf_u32 {x : Int} (h : (Lit.int .u32 x).wf = true) : 0 ≤ x ∧ x ≤ 4294967295 := by
  have t : (decide ((0 : Int) ≤ x) && decide (x ≤ 4294967295)) = true := h
  simpa using t
theorem wf_u64 {x : Int} (h : (Lit.int .u64 x).wf = true) : 0 ≤ x ∧ x ≤ 18446744073709551615 := by
  have t : (decide ((0 : Int) ≤ x) && decide (x ≤ 18446744073709551615)) = true := h
  simpa using t

/-- As the row's opening tells its arguments. -/
theorem WireFixed_row (g f x0 x1 : Int) (z : Bool) (s0 s1 : Int) (a : Option Addr) (len cap : Nat) (zs : List Int) (w : World) (wg : (Lit.int .u16 g).wf = true) (wf : (Lit.int .u32 f).wf = true) (wx0 : (Lit.int .u64 x0).wf = true) (wx1 : (Lit.int .u16 x1).wf = true) (ws0 : (Lit.int .u32 s0).wf = true) (ws1 : (Lit.int .u64 s1).wf = true)
    (hw : (a = none ∧ len = 0 ∧ cap = 0 ∧ zs = []) ∨ ∃ x, a = some x ∧ len ≤ cap ∧ cap ≤ maxLen ∧ zs.length = cap ∧ (∀ i, i < zs.length → w.cell? (x.add i) = some (.int .u8 (zs.getD i 0))) ∧ ∀ n ∈ zs, (Lit.int .u8 n).wf = true) (hy : len * 1 ≤ 140737488351232) :
    Calls Try.prog 7 #[.agg #[.int .u16 g], .int .u32 f, .agg #[.int .u64 x0, .int .u16 x1], .bool z, .agg #[.int .u32 s0, .int .u64 s1], .slice a len cap] w fun e w' => e = .returned (.bool true) ∧ Below w.heap.size w w' := by
  obtain ⟨l0, rfl, hr0, hm0, hw0, hc0⟩ := ReadsInt.ofRowC hw
  obtain ⟨g0, g1⟩ := wf_u16 wg
  obtain ⟨f0, f1⟩ := wf_u32 wf
  obtain ⟨b0, b1⟩ := wf_u64 wx0
  obtain ⟨c0, c1⟩ := wf_u16 wx1
  obtain ⟨d0, d1⟩ := wf_u32 ws0
  obtain ⟨e0, e1⟩ := wf_u64 ws1
  exact spindlelaw08_WireFixed.calls 400 g f x0 x1 z s0 s1 a cap l0 true rfl w (Kd.C_of_reads (d := (0 : Int)) (h1 := fun _ => rfl) hr0) hc0 (WireFixed_pure g f x0 x1 s0 s1 z l0 g0 g1 f0 f1 b0 b1 c0 c1 d0 d1 e0 e1 (by omega))
end Go.Proofs.Ytilgfhiomcfmhaa.PureZ
