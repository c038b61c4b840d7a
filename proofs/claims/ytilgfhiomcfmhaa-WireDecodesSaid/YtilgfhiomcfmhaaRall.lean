/- The document's decoders with data: they answer what the program's do, of every row of bytes. -/
import Derived.Test.YtilgfhiomcfmhaaRdec
import Derived.Test.YtilgfhiomcfmhaaRreqf
import Derived.Test.YtilgfhiomcfmhaaRreqt
import Derived.Test.YtilgfhiomcfmhaaRchkf
import Derived.Test.YtilgfhiomcfmhaaRchkt
namespace Go.Proofs.Ytilgfhiomcfmhaa.PureD
open Go.RowKit Go.Proofs.Ytilgfhiomcfmhaa.Hand Go.Proofs.Ytilgfhiomcfmhaa.PD Go.Proofs.Ytilgfhiomcfmhaa.Octa Go.Proofs.YtilgfhiomcfmhaaW.PrintWords Go.Proofs.YtilgfhiomcfmhaaW.PrintLast
set_option linter.unusedSimpArgs false
set_option linter.unusedVariables false

theorem m16 (l : List Int) (a : Nat) (hb : Bytes l) (h : a + 2 ≤ l.length) : vat l a 2 % 65536 = vat l a 2 ∧ 0 ≤ vat l a 2 ∧ vat l a 2 < 65536 := by
  have h1 := vat_lt l a 2 hb (by decide) h
  have h0 := (vat_range l a 2).1
  have h2 : vat l a 2 < 65536 := h1
  omega

theorem rdec_option (A : Option Addr) (c : Nat) (l : List Int) (m : Int) (r1 : Int) (r2 : Int) (r3 : Bool) (r4 : List Int) (r5 : Int) (r6 : Int) (w : World) (hC0 : Kd.C (Kd.int .u8) w A l.length l) (hc : l.length ≤ c) (hb : Bytes l) (q0 : 0 ≤ m) (q1 : m ≤ 4294967295) (h : wire_DecodeOption.f l m = some (r1, r2, r3, r4, r5, r6)) :
    Calls Try.prog 50 #[.slice A l.length c, .int .u32 m] w fun e w' => ∃ v_ : Value, e = .returned (.tuple #[.agg #[.int .u32 r1, .int .u32 r2, .bool r3, v_], .int .i64 r5, .int .i64 r6]) ∧ Kd.R (Kd.int .u8) 5 w' w.heap.size (fun _ => True) v_ r4 ∧ Below w.heap.size w w' := by
  have hC : ∀ W, Below w.heap.size w W → Kd.C (Kd.int .u8) W A l.length l := fun W hW => Kd.C_below hC0 hW
  unfold wire_DecodeOption.f at h
  split at h
  case isFalse => cases h
  rename_i hl
  by_cases h1 : l.length < 16
  · rw [if_pos h1] at h
    simp only [Option.some.injEq, Prod.mk.injEq] at h
    obtain ⟨rfl, rfl, rfl, rfl, rfl, rfl⟩ := h
    exact ropt_short A c l m w hC hc hl 16 10 (by decide) (by rw [if_pos h1])
  have hm : 16 ≤ l.length := by omega
  rw [if_neg h1] at h
  obtain ⟨e12, p12⟩ := m32 l 12 hb (by omega)
  obtain ⟨e8, p8⟩ := m32 l 8 hb (by omega)
  simp only [e12, e8] at h
  by_cases h2 : vat l 0 8 = 5280542401877725268
  · rw [if_pos h2] at h
    by_cases h3 : vat l 12 4 > m
    · rw [if_pos h3] at h
      simp only [Option.some.injEq, Prod.mk.injEq] at h
      obtain ⟨rfl, rfl, rfl, rfl, rfl, rfl⟩ := h
      exact ropt_long A c l m w hC hc hl hm h2 q0 q1 (vat l 12 4) (vat l 8 4) rfl rfl p12 p8 h3
    · rw [if_neg h3] at h
      by_cases h4 : (l.length : Int) < 16 + vat l 12 4
      · rw [if_pos h4] at h
        simp only [Option.some.injEq, Prod.mk.injEq] at h
        obtain ⟨rfl, rfl, rfl, rfl, rfl, rfl⟩ := h
        exact ropt_cut A c l m w hC hc hl hm h2 q0 q1 (vat l 12 4) (vat l 8 4) rfl rfl p12 p8 h3 h4
      · rw [if_neg h4] at h
        simp only [Option.some.injEq, Prod.mk.injEq] at h
        obtain ⟨rfl, rfl, rfl, rfl, rfl, rfl⟩ := h
        exact ropt_full A c l m w hC hc hl hm h2 q0 q1 (vat l 12 4) (vat l 8 4) rfl rfl p12 p8 h3 h4
  · rw [if_neg h2] at h
    simp only [Option.some.injEq, Prod.mk.injEq] at h
    obtain ⟨rfl, rfl, rfl, rfl, rfl, rfl⟩ := h
    exact ropt_short A c l m w hC hc hl 0 80 (by decide) (by rw [if_neg h1, if_neg (by decide), if_neg h2])

theorem rdec_reply (A : Option Addr) (c : Nat) (l : List Int) (m : Int) (r1 : Int) (r2 : Int) (r3 : List Int) (r4 : Int) (r5 : Int) (w : World) (hC0 : Kd.C (Kd.int .u8) w A l.length l) (hc : l.length ≤ c) (hb : Bytes l) (q0 : 0 ≤ m) (q1 : m ≤ 4294967295) (h : wire_DecodeReply.f l m = some (r1, r2, r3, r4, r5)) :
    Calls Try.prog 53 #[.slice A l.length c, .int .u32 m] w fun e w' => ∃ v_ : Value, e = .returned (.tuple #[.agg #[.int .u32 r1, .int .u32 r2, v_], .int .i64 r4, .int .i64 r5]) ∧ Kd.R (Kd.int .u8) 5 w' w.heap.size (fun _ => True) v_ r3 ∧ Below w.heap.size w w' := by
  have hC : ∀ W, Below w.heap.size w W → Kd.C (Kd.int .u8) W A l.length l := fun W hW => Kd.C_below hC0 hW
  unfold wire_DecodeReply.f at h
  split at h
  case isFalse => cases h
  rename_i hl
  by_cases h1 : l.length < 20
  · rw [if_pos h1] at h
    simp only [Option.some.injEq, Prod.mk.injEq] at h
    obtain ⟨rfl, rfl, rfl, rfl, rfl⟩ := h
    exact rrep_short A c l m w hC hc hl 20 10 (by decide) (by rw [if_pos h1])
  have hm : 20 ≤ l.length := by omega
  rw [if_neg h1] at h
  obtain ⟨e8, p8⟩ := m32 l 8 hb (by omega)
  obtain ⟨e12, p12⟩ := m32 l 12 hb (by omega)
  obtain ⟨e16, p16⟩ := m32 l 16 hb (by omega)
  simp only [e8, e12, e16] at h
  by_cases h2 : vat l 0 8 = 1100100111001001
  · rw [if_pos h2] at h
    by_cases h3 : vat l 16 4 > m
    · rw [if_pos h3] at h
      simp only [Option.some.injEq, Prod.mk.injEq] at h
      obtain ⟨rfl, rfl, rfl, rfl, rfl⟩ := h
      exact rrep_long A c l m w hC hc hl hm h2 q0 q1 (vat l 8 4) (vat l 12 4) (vat l 16 4) rfl rfl rfl p8 p12 p16 h3
    · rw [if_neg h3] at h
      by_cases h4 : (l.length : Int) < 20 + vat l 16 4
      · rw [if_pos h4] at h
        simp only [Option.some.injEq, Prod.mk.injEq] at h
        obtain ⟨rfl, rfl, rfl, rfl, rfl⟩ := h
        exact rrep_cut A c l m w hC hc hl hm h2 q0 q1 (vat l 8 4) (vat l 12 4) (vat l 16 4) rfl rfl rfl p8 p12 p16 h3 h4
      · rw [if_neg h4] at h
        simp only [Option.some.injEq, Prod.mk.injEq] at h
        obtain ⟨rfl, rfl, rfl, rfl, rfl⟩ := h
        exact rrep_full A c l m w hC hc hl hm h2 q0 q1 (vat l 8 4) (vat l 12 4) (vat l 16 4) rfl rfl rfl p8 p12 p16 h3 h4
  · rw [if_neg h2] at h
    simp only [Option.some.injEq, Prod.mk.injEq] at h
    obtain ⟨rfl, rfl, rfl, rfl, rfl⟩ := h
    exact rrep_short A c l m w hC hc hl 0 80 (by decide) (by rw [if_neg h1, if_neg (by decide), if_neg h2])

theorem rdec_request_false (A : Option Addr) (c : Nat) (l : List Int) (m : Int) (r1 : Int) (r2 : Int) (r3 : Int) (r4 : Int) (r5 : Int) (r6 : List Int) (r7 : Int) (r8 : Int) (w : World) (hC0 : Kd.C (Kd.int .u8) w A l.length l) (hc : l.length ≤ c) (hb : Bytes l) (q0 : 0 ≤ m) (q1 : m ≤ 4294967295) (h : wire_DecodeRequest.f l m false = some (r1, r2, r3, r4, r5, r6, r7, r8)) :
    Calls Try.prog 56 #[.slice A l.length c, .int .u32 m, .bool false] w fun e w' => ∃ v_ : Value, e = .returned (.tuple #[.agg #[.int .u16 r1, .int .u16 r2, .int .u64 r3, .int .u64 r4, .int .u64 r5, v_], .int .i64 r7, .int .i64 r8]) ∧ Kd.R (Kd.int .u8) 5 w' w.heap.size (fun _ => True) v_ r6 ∧ Below w.heap.size w w' := by
  have hC : ∀ W, Below w.heap.size w W → Kd.C (Kd.int .u8) W A l.length l := fun W hW => Kd.C_below hC0 hW
  unfold wire_DecodeRequest.f at h
  split at h
  case isFalse => cases h
  rename_i hl'
  have hl := hl'.1
  simp only [if_true, if_false, Bool.false_eq_true] at h
  by_cases h1 : l.length < 28
  · rw [if_pos h1] at h
    simp only [Option.some.injEq, Prod.mk.injEq] at h
    obtain ⟨rfl, rfl, rfl, rfl, rfl, rfl, rfl, rfl⟩ := h
    exact rreqf_short A c l m w hC hc hl 28 10 (by decide) (by rw [if_pos h1])
  have hm : 28 ≤ l.length := by omega
  rw [if_neg h1] at h
  obtain ⟨e4, p4⟩ := m16 l 4 hb (by omega)
  obtain ⟨e6, p6⟩ := m16 l 6 hb (by omega)
  have p8 := vat_range l 8 8
  have p16 := vat_range l 16 8
  obtain ⟨e24, p24⟩ := m32 l 24 hb (by omega)
  obtain ⟨e0, _⟩ := m32 l 0 hb (by omega)
  simp only [e4, e6, e24, e0] at h
  by_cases h2 : vat l 0 4 = 627086611
  · rw [if_pos h2] at h
    by_cases hp : paidB (vat l 4 2) (vat l 6 2) false = false
    · rw [if_pos hp] at h
      simp only [Option.some.injEq, Prod.mk.injEq] at h
      obtain ⟨rfl, rfl, rfl, rfl, rfl, rfl, rfl, rfl⟩ := h
      have := rreqf_bare A c l m w hC hc hl hm h2 q0 q1 (vat l 4 2) (vat l 6 2) (vat l 8 8) (vat l 16 8) (vat l 24 4) rfl rfl rfl rfl rfl p4 p6 p8 p16 p24 hp (by omega) (by omega)
      rw [show (l.take (28 : Int).toNat).drop (28 : Int).toNat = [] from List.drop_eq_nil_of_le (by rw [List.length_take]; omega)] at this
      exact this
    · rw [if_neg hp] at h
      have hp' : paidB (vat l 4 2) (vat l 6 2) false = true := by simpa using hp
      by_cases h3 : vat l 24 4 > m
      · rw [if_pos h3] at h
        simp only [Option.some.injEq, Prod.mk.injEq] at h
        obtain ⟨rfl, rfl, rfl, rfl, rfl, rfl, rfl, rfl⟩ := h
        exact rreqf_long A c l m w hC hc hl hm h2 q0 q1 (vat l 4 2) (vat l 6 2) (vat l 8 8) (vat l 16 8) (vat l 24 4) rfl rfl rfl rfl rfl p4 p6 p8 p16 p24 hp' h3
      · rw [if_neg h3] at h
        by_cases h4 : (l.length : Int) < 28 + vat l 24 4
        · rw [if_pos h4] at h
          simp only [Option.some.injEq, Prod.mk.injEq] at h
          obtain ⟨rfl, rfl, rfl, rfl, rfl, rfl, rfl, rfl⟩ := h
          exact rreqf_cut A c l m w hC hc hl hm h2 q0 q1 (vat l 4 2) (vat l 6 2) (vat l 8 8) (vat l 16 8) (vat l 24 4) rfl rfl rfl rfl rfl p4 p6 p8 p16 p24 hp' h3 h4
        · rw [if_neg h4] at h
          simp only [Option.some.injEq, Prod.mk.injEq] at h
          obtain ⟨rfl, rfl, rfl, rfl, rfl, rfl, rfl, rfl⟩ := h
          exact rreqf_full A c l m w hC hc hl hm h2 q0 q1 (vat l 4 2) (vat l 6 2) (vat l 8 8) (vat l 16 8) (vat l 24 4) rfl rfl rfl rfl rfl p4 p6 p8 p16 p24 hp' h3 h4
  · rw [if_neg h2] at h
    simp only [Option.some.injEq, Prod.mk.injEq] at h
    obtain ⟨rfl, rfl, rfl, rfl, rfl, rfl, rfl, rfl⟩ := h
    exact rreqf_short A c l m w hC hc hl 0 80 (by decide) (by rw [if_neg h1, if_neg (by decide), if_neg h2])

theorem rdec_request_true (A : Option Addr) (c : Nat) (l : List Int) (m : Int) (r1 : Int) (r2 : Int) (r3 : Int) (r4 : Int) (r5 : Int) (r6 : List Int) (r7 : Int) (r8 : Int) (w : World) (hC0 : Kd.C (Kd.int .u8) w A l.length l) (hc : l.length ≤ c) (hb : Bytes l) (q0 : 0 ≤ m) (q1 : m ≤ 4294967295) (h : wire_DecodeRequest.f l m true = some (r1, r2, r3, r4, r5, r6, r7, r8)) :
    Calls Try.prog 56 #[.slice A l.length c, .int .u32 m, .bool true] w fun e w' => ∃ v_ : Value, e = .returned (.tuple #[.agg #[.int .u16 r1, .int .u16 r2, .int .u64 r3, .int .u64 r4, .int .u64 r5, v_], .int .i64 r7, .int .i64 r8]) ∧ Kd.R (Kd.int .u8) 5 w' w.heap.size (fun _ => True) v_ r6 ∧ Below w.heap.size w w' := by
  have hC : ∀ W, Below w.heap.size w W → Kd.C (Kd.int .u8) W A l.length l := fun W hW => Kd.C_below hC0 hW
  unfold wire_DecodeRequest.f at h
  split at h
  case isFalse => cases h
  rename_i hl'
  have hl := hl'.1
  simp only [if_true, if_false, Bool.false_eq_true] at h
  by_cases h1 : l.length < 32
  · rw [if_pos h1] at h
    simp only [Option.some.injEq, Prod.mk.injEq] at h
    obtain ⟨rfl, rfl, rfl, rfl, rfl, rfl, rfl, rfl⟩ := h
    exact rreqt_short A c l m w hC hc hl 32 10 (by decide) (by rw [if_pos h1])
  have hm : 32 ≤ l.length := by omega
  rw [if_neg h1] at h
  obtain ⟨e4, p4⟩ := m16 l 4 hb (by omega)
  obtain ⟨e6, p6⟩ := m16 l 6 hb (by omega)
  have p8 := vat_range l 8 8
  have p16 := vat_range l 16 8
  have p24 := vat_range l 24 8
  obtain ⟨e0, _⟩ := m32 l 0 hb (by omega)
  simp only [e4, e6, e0] at h
  by_cases h2 : vat l 0 4 = 568597617
  · rw [if_pos h2] at h
    by_cases hp : paidB (vat l 4 2) (vat l 6 2) true = false
    · rw [if_pos hp] at h
      simp only [Option.some.injEq, Prod.mk.injEq] at h
      obtain ⟨rfl, rfl, rfl, rfl, rfl, rfl, rfl, rfl⟩ := h
      have := rreqt_bare A c l m w hC hc hl hm h2 q0 q1 (vat l 4 2) (vat l 6 2) (vat l 8 8) (vat l 16 8) (vat l 24 8) rfl rfl rfl rfl rfl p4 p6 p8 p16 p24 hp (by omega) (by omega)
      rw [show (l.take (32 : Int).toNat).drop (32 : Int).toNat = [] from List.drop_eq_nil_of_le (by rw [List.length_take]; omega)] at this
      exact this
    · rw [if_neg hp] at h
      have hp' : paidB (vat l 4 2) (vat l 6 2) true = true := by simpa using hp
      by_cases h3 : vat l 24 8 > m
      · rw [if_pos h3] at h
        simp only [Option.some.injEq, Prod.mk.injEq] at h
        obtain ⟨rfl, rfl, rfl, rfl, rfl, rfl, rfl, rfl⟩ := h
        exact rreqt_long A c l m w hC hc hl hm h2 q0 q1 (vat l 4 2) (vat l 6 2) (vat l 8 8) (vat l 16 8) (vat l 24 8) rfl rfl rfl rfl rfl p4 p6 p8 p16 p24 hp' h3
      · rw [if_neg h3] at h
        by_cases h4 : (l.length : Int) < 32 + vat l 24 8
        · rw [if_pos h4] at h
          simp only [Option.some.injEq, Prod.mk.injEq] at h
          obtain ⟨rfl, rfl, rfl, rfl, rfl, rfl, rfl, rfl⟩ := h
          exact rreqt_cut A c l m w hC hc hl hm h2 q0 q1 (vat l 4 2) (vat l 6 2) (vat l 8 8) (vat l 16 8) (vat l 24 8) rfl rfl rfl rfl rfl p4 p6 p8 p16 p24 hp' h3 h4
        · rw [if_neg h4] at h
          simp only [Option.some.injEq, Prod.mk.injEq] at h
          obtain ⟨rfl, rfl, rfl, rfl, rfl, rfl, rfl, rfl⟩ := h
          exact rreqt_full A c l m w hC hc hl hm h2 q0 q1 (vat l 4 2) (vat l 6 2) (vat l 8 8) (vat l 16 8) (vat l 24 8) rfl rfl rfl rfl rfl p4 p6 p8 p16 p24 hp' h3 h4
  · rw [if_neg h2] at h
    simp only [Option.some.injEq, Prod.mk.injEq] at h
    obtain ⟨rfl, rfl, rfl, rfl, rfl, rfl, rfl, rfl⟩ := h
    exact rreqt_short A c l m w hC hc hl 0 80 (by decide) (by rw [if_neg h1, if_neg (by decide), if_neg h2])

theorem rdec_chunk_false (A : Option Addr) (c : Nat) (l : List Int) (m : Int) (r1 : Int) (r2 : Int) (r3 : Int) (r4 : Int) (r5 : List Int) (r6 : Int) (r7 : Int) (w : World) (hC0 : Kd.C (Kd.int .u8) w A l.length l) (hc : l.length ≤ c) (hb : Bytes l) (q0 : 0 ≤ m) (q1 : m ≤ 4294967295) (h : wire_DecodeChunk.f l m false = some (r1, r2, r3, r4, r5, r6, r7)) :
    Calls Try.prog 58 #[.slice A l.length c, .int .u32 m, .bool false] w fun e w' => ∃ v_ : Value, e = .returned (.tuple #[.agg #[.int .u16 r1, .int .u16 r2, .int .u64 r3, .int .u64 r4, v_], .int .i64 r6, .int .i64 r7]) ∧ Kd.R (Kd.int .u8) 5 w' w.heap.size (fun _ => True) v_ r5 ∧ Below w.heap.size w w' := by
  have hC : ∀ W, Below w.heap.size w W → Kd.C (Kd.int .u8) W A l.length l := fun W hW => Kd.C_below hC0 hW
  unfold wire_DecodeChunk.f at h
  split at h
  case isFalse => cases h
  rename_i hl'
  have hl := hl'.1
  simp only [if_true, if_false, Bool.false_eq_true] at h
  by_cases h1 : l.length < 20
  · rw [if_pos h1] at h
    simp only [Option.some.injEq, Prod.mk.injEq] at h
    obtain ⟨rfl, rfl, rfl, rfl, rfl, rfl, rfl⟩ := h
    exact rchkf_short A c l m w hC hc hl 20 10 (by decide) (by rw [if_pos h1])
  have hm : 20 ≤ l.length := by omega
  rw [if_neg h1] at h
  obtain ⟨e4, p4⟩ := m16 l 4 hb (by omega)
  obtain ⟨e6, p6⟩ := m16 l 6 hb (by omega)
  have p8 := vat_range l 8 8
  obtain ⟨e16, p16⟩ := m32 l 16 hb (by omega)
  obtain ⟨e0, _⟩ := m32 l 0 hb (by omega)
  simp only [e4, e6, e16, e0] at h
  by_cases h2 : vat l 0 4 = 1720595439
  · rw [if_pos h2] at h
    by_cases h3 : vat l 16 4 > m
    · rw [if_pos h3] at h
      simp only [Option.some.injEq, Prod.mk.injEq] at h
      obtain ⟨rfl, rfl, rfl, rfl, rfl, rfl, rfl⟩ := h
      exact rchkf_long A c l m w hC hc hl hm h2 q0 q1 (vat l 4 2) (vat l 6 2) (vat l 8 8) (vat l 16 4) rfl rfl rfl rfl p4 p6 p8 p16 h3
    · rw [if_neg h3] at h
      by_cases h4 : (l.length : Int) < 20 + vat l 16 4
      · rw [if_pos h4] at h
        simp only [Option.some.injEq, Prod.mk.injEq] at h
        obtain ⟨rfl, rfl, rfl, rfl, rfl, rfl, rfl⟩ := h
        exact rchkf_cut A c l m w hC hc hl hm h2 q0 q1 (vat l 4 2) (vat l 6 2) (vat l 8 8) (vat l 16 4) rfl rfl rfl rfl p4 p6 p8 p16 h3 h4
      · rw [if_neg h4] at h
        simp only [Option.some.injEq, Prod.mk.injEq] at h
        obtain ⟨rfl, rfl, rfl, rfl, rfl, rfl, rfl⟩ := h
        exact rchkf_full A c l m w hC hc hl hm h2 q0 q1 (vat l 4 2) (vat l 6 2) (vat l 8 8) (vat l 16 4) rfl rfl rfl rfl p4 p6 p8 p16 h3 h4
  · rw [if_neg h2] at h
    simp only [Option.some.injEq, Prod.mk.injEq] at h
    obtain ⟨rfl, rfl, rfl, rfl, rfl, rfl, rfl⟩ := h
    exact rchkf_short A c l m w hC hc hl 0 80 (by decide) (by rw [if_neg h1, if_neg (by decide), if_neg h2])

theorem rdec_chunk_true (A : Option Addr) (c : Nat) (l : List Int) (m : Int) (r1 : Int) (r2 : Int) (r3 : Int) (r4 : Int) (r5 : List Int) (r6 : Int) (r7 : Int) (w : World) (hC0 : Kd.C (Kd.int .u8) w A l.length l) (hc : l.length ≤ c) (hb : Bytes l) (q0 : 0 ≤ m) (q1 : m ≤ 4294967295) (h : wire_DecodeChunk.f l m true = some (r1, r2, r3, r4, r5, r6, r7)) :
    Calls Try.prog 58 #[.slice A l.length c, .int .u32 m, .bool true] w fun e w' => ∃ v_ : Value, e = .returned (.tuple #[.agg #[.int .u16 r1, .int .u16 r2, .int .u64 r3, .int .u64 r4, v_], .int .i64 r6, .int .i64 r7]) ∧ Kd.R (Kd.int .u8) 5 w' w.heap.size (fun _ => True) v_ r5 ∧ Below w.heap.size w w' := by
  have hC : ∀ W, Below w.heap.size w W → Kd.C (Kd.int .u8) W A l.length l := fun W hW => Kd.C_below hC0 hW
  unfold wire_DecodeChunk.f at h
  split at h
  case isFalse => cases h
  rename_i hl'
  have hl := hl'.1
  simp only [if_true, if_false, Bool.false_eq_true] at h
  by_cases h1 : l.length < 32
  · rw [if_pos h1] at h
    simp only [Option.some.injEq, Prod.mk.injEq] at h
    obtain ⟨rfl, rfl, rfl, rfl, rfl, rfl, rfl⟩ := h
    exact rchkt_short A c l m w hC hc hl 32 10 (by decide) (by rw [if_pos h1])
  have hm : 32 ≤ l.length := by omega
  rw [if_neg h1] at h
  obtain ⟨e4, p4⟩ := m16 l 4 hb (by omega)
  obtain ⟨e6, p6⟩ := m16 l 6 hb (by omega)
  have p8 := vat_range l 8 8
  have p16 := vat_range l 16 8
  have p24 := vat_range l 24 8
  obtain ⟨e0, _⟩ := m32 l 0 hb (by omega)
  simp only [e4, e6, e0] at h
  by_cases h2 : vat l 0 4 = 1854547852
  · rw [if_pos h2] at h
    by_cases h3 : vat l 24 8 > m
    · rw [if_pos h3] at h
      simp only [Option.some.injEq, Prod.mk.injEq] at h
      obtain ⟨rfl, rfl, rfl, rfl, rfl, rfl, rfl⟩ := h
      exact rchkt_long A c l m w hC hc hl hm h2 q0 q1 (vat l 4 2) (vat l 6 2) (vat l 8 8) (vat l 16 8) (vat l 24 8) rfl rfl rfl rfl rfl p4 p6 p8 p16 p24 h3
    · rw [if_neg h3] at h
      by_cases h4 : (l.length : Int) < 32 + vat l 24 8
      · rw [if_pos h4] at h
        simp only [Option.some.injEq, Prod.mk.injEq] at h
        obtain ⟨rfl, rfl, rfl, rfl, rfl, rfl, rfl⟩ := h
        exact rchkt_cut A c l m w hC hc hl hm h2 q0 q1 (vat l 4 2) (vat l 6 2) (vat l 8 8) (vat l 16 8) (vat l 24 8) rfl rfl rfl rfl rfl p4 p6 p8 p16 p24 h3 h4
      · rw [if_neg h4] at h
        simp only [Option.some.injEq, Prod.mk.injEq] at h
        obtain ⟨rfl, rfl, rfl, rfl, rfl, rfl, rfl⟩ := h
        exact rchkt_full A c l m w hC hc hl hm h2 q0 q1 (vat l 4 2) (vat l 6 2) (vat l 8 8) (vat l 16 8) (vat l 24 8) rfl rfl rfl rfl rfl p4 p6 p8 p16 p24 h3 h4
  · rw [if_neg h2] at h
    simp only [Option.some.injEq, Prod.mk.injEq] at h
    obtain ⟨rfl, rfl, rfl, rfl, rfl, rfl, rfl⟩ := h
    exact rchkt_short A c l m w hC hc hl 0 80 (by decide) (by rw [if_neg h1, if_neg (by decide), if_neg h2])

end Go.Proofs.Ytilgfhiomcfmhaa.PureD
