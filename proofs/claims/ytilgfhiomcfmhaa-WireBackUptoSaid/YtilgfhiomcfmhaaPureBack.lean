/- What package wire lays down it reads again, whatever stands behind. (Plain: no program in sight but the functions that the contracts compute.) -/
import Derived.Test.YtilgfhiomcfmhaaPureBytes
import Derived.Laws.BitsAllLaws
import Derived.Test.YtilgfhiomcfmhaaWird
import Derived.Test.YtilgfhiomcfmhaaWirc
import Derived.Test.YtilgfhiomcfmhaaWirf
import Derived.Test.YtilgfhiomcfmhaaWirg
namespace Go.Proofs.Ytilgfhiomcfmhaa.PureB
open Go.RowKit Go.Proofs.Ytilgfhiomcfmhaa.Hand Go.Proofs.Ytilgfhiomcfmhaa.Octa Go.Proofs.YtilgfhiomcfmhaaW.PrintWords Go.Proofs.YtilgfhiomcfmhaaW.PrintLast
set_option linter.unusedSimpArgs false
set_option linter.unusedVariables false

theorem cutmid (P l more : List Int) (H : Nat) (hP : P.length = H) (L : Nat) (hL : l.length = L) : ((P ++ l ++ more).take (H + L)).drop H = l := by
  rw [List.take_left' (by rw [List.length_append, hP, hL]), List.drop_left' hP]
theorem be4_mod (v : Int) : be (v % 4294967296) 4 = be v 4 := by
  unfold be
  simp only [List.range_succ, List.range_zero, List.nil_append, List.map_append, List.map_cons, List.map_nil, List.cons_append]
  have e0 : v % 4294967296 / 256 ^ (4 - 1 - 0) % 256 = v / 256 ^ (4 - 1 - 0) % 256 := by simp only [Nat.reduceSub]; omega
  have e1 : v % 4294967296 / 256 ^ (4 - 1 - 1) % 256 = v / 256 ^ (4 - 1 - 1) % 256 := by simp only [Nat.reduceSub]; omega
  have e2 : v % 4294967296 / 256 ^ (4 - 1 - 2) % 256 = v / 256 ^ (4 - 1 - 2) % 256 := by simp only [Nat.reduceSub]; omega
  have e3 : v % 4294967296 / 256 ^ (4 - 1 - 3) % 256 = v / 256 ^ (4 - 1 - 3) % 256 := by simp only [Nat.reduceSub]; omega
  show [_, _, _, _] = [_, _, _, _]
  rw [e0, e1, e2, e3]

theorem back_option (o0 : Int) (l more : List Int) (most : Int) (ro0 : 0 ≤ o0 ∧ o0 ≤ 4294967295) (hl : l.length ≤ 1048576) (hm : more.length ≤ 1048576) (s0 : 0 ≤ most) (s1 : most ≤ 4294967295) :
    ∃ A, wire_EncodeOption.f o0 (l.length : Int) false l = some (A, 0) ∧ A.length = 16 + l.length ∧ ((l.length : Int) ≤ most → wire_DecodeOption.f (A ++ more) most = some (o0, (l.length : Int), false, l, 16 + (l.length : Int), 0)) ∧ (¬ (l.length : Int) ≤ most → wire_DecodeOption.f (A ++ more) most = some (o0, (l.length : Int), true, [], 16, 12)) := by
  have hPl : (be 5280542401877725268 8 ++ be o0 4 ++ be ((l.length : Int)) 4).length = 16 := by simp [be_length]
  have e0 : vat (be 5280542401877725268 8 ++ be o0 4 ++ be ((l.length : Int)) 4 ++ l ++ more) 0 8 = 5280542401877725268 := by
    have t := vat_be (5280542401877725268) (([] : List Int)) (be o0 4 ++ be ((l.length : Int)) 4 ++ l ++ more) 0 8 (by simp [be_length]) (by decide) (by omega) (by show _ < (256 : Int) ^ 8; simp only [show (256 : Int) ^ 8 = 18446744073709551616 from by decide]; omega)
    simpa only [List.nil_append, List.append_assoc] using t
  have e1 : vat (be 5280542401877725268 8 ++ be o0 4 ++ be ((l.length : Int)) 4 ++ l ++ more) 8 4 = o0 := by
    have t := vat_be (o0) (be 5280542401877725268 8) (be ((l.length : Int)) 4 ++ l ++ more) 8 4 (by simp [be_length]) (by decide) (by omega) (by show _ < (256 : Int) ^ 4; simp only [show (256 : Int) ^ 4 = 4294967296 from by decide]; omega)
    simpa only [List.nil_append, List.append_assoc] using t
  have e2 : vat (be 5280542401877725268 8 ++ be o0 4 ++ be ((l.length : Int)) 4 ++ l ++ more) 12 4 = (l.length : Int) := by
    have t := vat_be ((l.length : Int)) (be 5280542401877725268 8 ++ be o0 4) (l ++ more) 12 4 (by simp [be_length]) (by decide) (by omega) (by show _ < (256 : Int) ^ 4; simp only [show (256 : Int) ^ 4 = 4294967296 from by decide]; omega)
    simpa only [List.nil_append, List.append_assoc] using t
  have hc := cutmid (be 5280542401877725268 8 ++ be o0 4 ++ be ((l.length : Int)) 4) l more 16 hPl l.length rfl
  have hT : (be 5280542401877725268 8 ++ be o0 4 ++ be ((l.length : Int)) 4 ++ l ++ more).length = 16 + l.length + more.length := by rw [List.length_append, List.length_append, hPl]
  refine ⟨be 5280542401877725268 8 ++ be o0 4 ++ be ((l.length : Int)) 4 ++ l, ?_, by rw [List.length_append, hPl], ?_⟩
  · unfold wire_EncodeOption.f
    have hx : (0 ≤ o0 ∧ o0 ≤ 4294967295) ∧ (0 ≤ (l.length : Int) ∧ (l.length : Int) ≤ 4294967295) ∧ l.length ≤ 140737488355000 := ⟨ro0, by omega, by omega⟩
    rw [if_pos hx]
    simp
  obtain ⟨T, hTe⟩ : ∃ T, T = be 5280542401877725268 8 ++ be o0 4 ++ be ((l.length : Int)) 4 ++ l ++ more := ⟨_, rfl⟩
  rw [← hTe] at e0 e1 e2 hc hT ⊢
  clear hTe hPl
  have m1 : (o0) % 4294967296 = o0 := by omega
  have m2 : ((l.length : Int)) % 4294967296 = (l.length : Int) := by omega
  have hn : (16 + (l.length : Int)).toNat = 16 + l.length := by omega
  have g0 : T.length ≤ 140737488355000 := by omega
  have g1 : ¬ T.length < 16 := by omega
  have g2 : ¬ (T.length : Int) < 16 + (l.length : Int) := by omega
  have g3 : (16 : Int).toNat = 16 := rfl
  constructor
  · intro hf
    have g4 : ¬ (l.length : Int) > most := by omega
    unfold wire_DecodeOption.f
    simp only [e0, e1, e2, m1, m2]
    simp [g0, g1, g2, g4, hn, hc, s0, s1]
  · intro hf
    have g4 : (l.length : Int) > most := by omega
    unfold wire_DecodeOption.f
    simp only [e0, e1, e2, m1, m2]
    simp [g0, g1, g2, g4, hn, hc, s0, s1]

theorem back_reply (r0 : Int) (r1 : Int) (l more : List Int) (most : Int) (rr0 : 0 ≤ r0 ∧ r0 ≤ 4294967295) (rr1 : 0 ≤ r1 ∧ r1 ≤ 4294967295) (hl : l.length ≤ 1048576) (hm : more.length ≤ 1048576) (s0 : 0 ≤ most) (s1 : most ≤ 4294967295) :
    ∃ A, wire_EncodeReply.f r0 r1 l = some A ∧ A.length = 20 + l.length ∧ ((l.length : Int) ≤ most → wire_DecodeReply.f (A ++ more) most = some (r0, r1, l, 20 + (l.length : Int), 0)) ∧ (¬ (l.length : Int) ≤ most → wire_DecodeReply.f (A ++ more) most = some (r0, r1, [], 20, 12)) := by
  have hPl : (be 1100100111001001 8 ++ be r0 4 ++ be r1 4 ++ be ((l.length : Int)) 4).length = 20 := by simp [be_length]
  have e0 : vat (be 1100100111001001 8 ++ be r0 4 ++ be r1 4 ++ be ((l.length : Int)) 4 ++ l ++ more) 0 8 = 1100100111001001 := by
    have t := vat_be (1100100111001001) (([] : List Int)) (be r0 4 ++ be r1 4 ++ be ((l.length : Int)) 4 ++ l ++ more) 0 8 (by simp [be_length]) (by decide) (by omega) (by show _ < (256 : Int) ^ 8; simp only [show (256 : Int) ^ 8 = 18446744073709551616 from by decide]; omega)
    simpa only [List.nil_append, List.append_assoc] using t
  have e1 : vat (be 1100100111001001 8 ++ be r0 4 ++ be r1 4 ++ be ((l.length : Int)) 4 ++ l ++ more) 8 4 = r0 := by
    have t := vat_be (r0) (be 1100100111001001 8) (be r1 4 ++ be ((l.length : Int)) 4 ++ l ++ more) 8 4 (by simp [be_length]) (by decide) (by omega) (by show _ < (256 : Int) ^ 4; simp only [show (256 : Int) ^ 4 = 4294967296 from by decide]; omega)
    simpa only [List.nil_append, List.append_assoc] using t
  have e2 : vat (be 1100100111001001 8 ++ be r0 4 ++ be r1 4 ++ be ((l.length : Int)) 4 ++ l ++ more) 12 4 = r1 := by
    have t := vat_be (r1) (be 1100100111001001 8 ++ be r0 4) (be ((l.length : Int)) 4 ++ l ++ more) 12 4 (by simp [be_length]) (by decide) (by omega) (by show _ < (256 : Int) ^ 4; simp only [show (256 : Int) ^ 4 = 4294967296 from by decide]; omega)
    simpa only [List.nil_append, List.append_assoc] using t
  have e3 : vat (be 1100100111001001 8 ++ be r0 4 ++ be r1 4 ++ be ((l.length : Int)) 4 ++ l ++ more) 16 4 = (l.length : Int) := by
    have t := vat_be ((l.length : Int)) (be 1100100111001001 8 ++ be r0 4 ++ be r1 4) (l ++ more) 16 4 (by simp [be_length]) (by decide) (by omega) (by show _ < (256 : Int) ^ 4; simp only [show (256 : Int) ^ 4 = 4294967296 from by decide]; omega)
    simpa only [List.nil_append, List.append_assoc] using t
  have hc := cutmid (be 1100100111001001 8 ++ be r0 4 ++ be r1 4 ++ be ((l.length : Int)) 4) l more 20 hPl l.length rfl
  have hT : (be 1100100111001001 8 ++ be r0 4 ++ be r1 4 ++ be ((l.length : Int)) 4 ++ l ++ more).length = 20 + l.length + more.length := by rw [List.length_append, List.length_append, hPl]
  refine ⟨be 1100100111001001 8 ++ be r0 4 ++ be r1 4 ++ be ((l.length : Int)) 4 ++ l, ?_, by rw [List.length_append, hPl], ?_⟩
  · unfold wire_EncodeReply.f
    have hx : (0 ≤ r0 ∧ r0 ≤ 4294967295) ∧ (0 ≤ r1 ∧ r1 ≤ 4294967295) ∧ l.length ≤ 140737488355000 := ⟨rr0, rr1, by omega⟩
    rw [if_pos hx, be4_mod]
  obtain ⟨T, hTe⟩ : ∃ T, T = be 1100100111001001 8 ++ be r0 4 ++ be r1 4 ++ be ((l.length : Int)) 4 ++ l ++ more := ⟨_, rfl⟩
  rw [← hTe] at e0 e1 e2 e3 hc hT ⊢
  clear hTe hPl
  have m1 : (r0) % 4294967296 = r0 := by omega
  have m2 : (r1) % 4294967296 = r1 := by omega
  have m3 : ((l.length : Int)) % 4294967296 = (l.length : Int) := by omega
  have hn : (20 + (l.length : Int)).toNat = 20 + l.length := by omega
  have g0 : T.length ≤ 140737488355000 := by omega
  have g1 : ¬ T.length < 20 := by omega
  have g2 : ¬ (T.length : Int) < 20 + (l.length : Int) := by omega
  have g3 : (20 : Int).toNat = 20 := rfl
  constructor
  · intro hf
    have g4 : ¬ (l.length : Int) > most := by omega
    unfold wire_DecodeReply.f
    simp only [e0, e1, e2, e3, m1, m2, m3]
    simp [g0, g1, g2, g4, hn, hc, s0, s1]
  · intro hf
    have g4 : (l.length : Int) > most := by omega
    unfold wire_DecodeReply.f
    simp only [e0, e1, e2, e3, m1, m2, m3]
    simp [g0, g1, g2, g4, hn, hc, s0, s1]

theorem back_request_false (q0 : Int) (q2 : Int) (q3 : Int) (l more : List Int) (most : Int) (rq0 : 0 ≤ q0 ∧ q0 ≤ 65535) (rq2 : 0 ≤ q2 ∧ q2 ≤ 18446744073709551615) (rq3 : 0 ≤ q3 ∧ q3 ≤ 18446744073709551615) (hp : paidB q0 1 false = true) (hl : l.length ≤ 1048576) (hm : more.length ≤ 1048576) (s0 : 0 ≤ most) (s1 : most ≤ 4294967295) :
    ∃ A, wire_EncodeRequest.f q0 1 q2 q3 (l.length : Int) l false = some (A, 0) ∧ A.length = 28 + l.length ∧ ((l.length : Int) ≤ most → wire_DecodeRequest.f (A ++ more) most false = some (q0, 1, q2, q3, (l.length : Int), l, 28 + (l.length : Int), 0)) ∧ (¬ (l.length : Int) ≤ most → wire_DecodeRequest.f (A ++ more) most false = some (q0, 1, q2, q3, (l.length : Int), [], 28, 12)) := by
  have hPl : (be 627086611 4 ++ be q0 2 ++ be 1 2 ++ be q2 8 ++ be q3 8 ++ be ((l.length : Int)) 4).length = 28 := by simp [be_length]
  have e0 : vat (be 627086611 4 ++ be q0 2 ++ be 1 2 ++ be q2 8 ++ be q3 8 ++ be ((l.length : Int)) 4 ++ l ++ more) 0 4 = 627086611 := by
    have t := vat_be (627086611) (([] : List Int)) (be q0 2 ++ be 1 2 ++ be q2 8 ++ be q3 8 ++ be ((l.length : Int)) 4 ++ l ++ more) 0 4 (by simp [be_length]) (by decide) (by omega) (by show _ < (256 : Int) ^ 4; simp only [show (256 : Int) ^ 4 = 4294967296 from by decide]; omega)
    simpa only [List.nil_append, List.append_assoc] using t
  have e1 : vat (be 627086611 4 ++ be q0 2 ++ be 1 2 ++ be q2 8 ++ be q3 8 ++ be ((l.length : Int)) 4 ++ l ++ more) 4 2 = q0 := by
    have t := vat_be (q0) (be 627086611 4) (be 1 2 ++ be q2 8 ++ be q3 8 ++ be ((l.length : Int)) 4 ++ l ++ more) 4 2 (by simp [be_length]) (by decide) (by omega) (by show _ < (256 : Int) ^ 2; simp only [show (256 : Int) ^ 2 = 65536 from by decide]; omega)
    simpa only [List.nil_append, List.append_assoc] using t
  have e2 : vat (be 627086611 4 ++ be q0 2 ++ be 1 2 ++ be q2 8 ++ be q3 8 ++ be ((l.length : Int)) 4 ++ l ++ more) 6 2 = 1 := by
    have t := vat_be (1) (be 627086611 4 ++ be q0 2) (be q2 8 ++ be q3 8 ++ be ((l.length : Int)) 4 ++ l ++ more) 6 2 (by simp [be_length]) (by decide) (by omega) (by show _ < (256 : Int) ^ 2; simp only [show (256 : Int) ^ 2 = 65536 from by decide]; omega)
    simpa only [List.nil_append, List.append_assoc] using t
  have e3 : vat (be 627086611 4 ++ be q0 2 ++ be 1 2 ++ be q2 8 ++ be q3 8 ++ be ((l.length : Int)) 4 ++ l ++ more) 8 8 = q2 := by
    have t := vat_be (q2) (be 627086611 4 ++ be q0 2 ++ be 1 2) (be q3 8 ++ be ((l.length : Int)) 4 ++ l ++ more) 8 8 (by simp [be_length]) (by decide) (by omega) (by show _ < (256 : Int) ^ 8; simp only [show (256 : Int) ^ 8 = 18446744073709551616 from by decide]; omega)
    simpa only [List.nil_append, List.append_assoc] using t
  have e4 : vat (be 627086611 4 ++ be q0 2 ++ be 1 2 ++ be q2 8 ++ be q3 8 ++ be ((l.length : Int)) 4 ++ l ++ more) 16 8 = q3 := by
    have t := vat_be (q3) (be 627086611 4 ++ be q0 2 ++ be 1 2 ++ be q2 8) (be ((l.length : Int)) 4 ++ l ++ more) 16 8 (by simp [be_length]) (by decide) (by omega) (by show _ < (256 : Int) ^ 8; simp only [show (256 : Int) ^ 8 = 18446744073709551616 from by decide]; omega)
    simpa only [List.nil_append, List.append_assoc] using t
  have e5 : vat (be 627086611 4 ++ be q0 2 ++ be 1 2 ++ be q2 8 ++ be q3 8 ++ be ((l.length : Int)) 4 ++ l ++ more) 24 4 = (l.length : Int) := by
    have t := vat_be ((l.length : Int)) (be 627086611 4 ++ be q0 2 ++ be 1 2 ++ be q2 8 ++ be q3 8) (l ++ more) 24 4 (by simp [be_length]) (by decide) (by omega) (by show _ < (256 : Int) ^ 4; simp only [show (256 : Int) ^ 4 = 4294967296 from by decide]; omega)
    simpa only [List.nil_append, List.append_assoc] using t
  have hc := cutmid (be 627086611 4 ++ be q0 2 ++ be 1 2 ++ be q2 8 ++ be q3 8 ++ be ((l.length : Int)) 4) l more 28 hPl l.length rfl
  have hT : (be 627086611 4 ++ be q0 2 ++ be 1 2 ++ be q2 8 ++ be q3 8 ++ be ((l.length : Int)) 4 ++ l ++ more).length = 28 + l.length + more.length := by rw [List.length_append, List.length_append, hPl]
  refine ⟨be 627086611 4 ++ be q0 2 ++ be 1 2 ++ be q2 8 ++ be q3 8 ++ be ((l.length : Int)) 4 ++ l, ?_, by rw [List.length_append, hPl], ?_⟩
  · unfold wire_EncodeRequest.f
    have hx : (0 ≤ q0 ∧ q0 ≤ 65535) ∧ (0 ≤ (1 : Int) ∧ (1 : Int) ≤ 65535) ∧ (0 ≤ (l.length : Int) ∧ (l.length : Int) ≤ 18446744073709551615) ∧ l.length ≤ 140737488355000 := ⟨rq0, by decide, by omega, by omega⟩
    have hy : ¬ ((l.length : Int) > 4294967295) := by omega
    rw [if_pos hx, hp]
    simp [hy]; try omega
  obtain ⟨T, hTe⟩ : ∃ T, T = be 627086611 4 ++ be q0 2 ++ be 1 2 ++ be q2 8 ++ be q3 8 ++ be ((l.length : Int)) 4 ++ l ++ more := ⟨_, rfl⟩
  rw [← hTe] at e0 e1 e2 e3 e4 e5 hc hT ⊢
  clear hTe hPl
  have m0 : (627086611) % 4294967296 = 627086611 := by omega
  have m1 : (q0) % 65536 = q0 := by omega
  have m2 : (1) % 65536 = 1 := by omega
  have m5 : ((l.length : Int)) % 4294967296 = (l.length : Int) := by omega
  have hn : (28 + (l.length : Int)).toNat = 28 + l.length := by omega
  have g0 : T.length ≤ 140737488355000 := by omega
  have g1 : ¬ T.length < 28 := by omega
  have g2 : ¬ (T.length : Int) < 28 + (l.length : Int) := by omega
  have g3 : (28 : Int).toNat = 28 := rfl
  constructor
  · intro hf
    have g4 : ¬ (l.length : Int) > most := by omega
    unfold wire_DecodeRequest.f
    simp only [e0, e1, e2, e3, e4, e5, m0, m1, m2, m5, hp]
    simp [g0, g1, g2, g4, hn, hc, s0, s1, hp]
  · intro hf
    have g4 : (l.length : Int) > most := by omega
    unfold wire_DecodeRequest.f
    simp only [e0, e1, e2, e3, e4, e5, m0, m1, m2, m5, hp]
    simp [g0, g1, g2, g4, hn, hc, s0, s1, hp]

theorem back_request_true (q0 : Int) (q2 : Int) (q3 : Int) (l more : List Int) (most : Int) (rq0 : 0 ≤ q0 ∧ q0 ≤ 65535) (rq2 : 0 ≤ q2 ∧ q2 ≤ 18446744073709551615) (rq3 : 0 ≤ q3 ∧ q3 ≤ 18446744073709551615) (hp : paidB q0 1 true = true) (hl : l.length ≤ 1048576) (hm : more.length ≤ 1048576) (s0 : 0 ≤ most) (s1 : most ≤ 4294967295) :
    ∃ A, wire_EncodeRequest.f q0 1 q2 q3 (l.length : Int) l true = some (A, 0) ∧ A.length = 32 + l.length ∧ ((l.length : Int) ≤ most → wire_DecodeRequest.f (A ++ more) most true = some (q0, 1, q2, q3, (l.length : Int), l, 32 + (l.length : Int), 0)) ∧ (¬ (l.length : Int) ≤ most → wire_DecodeRequest.f (A ++ more) most true = some (q0, 1, q2, q3, (l.length : Int), [], 32, 12)) := by
  have hPl : (be 568597617 4 ++ be q0 2 ++ be 1 2 ++ be q2 8 ++ be q3 8 ++ be ((l.length : Int)) 8).length = 32 := by simp [be_length]
  have e0 : vat (be 568597617 4 ++ be q0 2 ++ be 1 2 ++ be q2 8 ++ be q3 8 ++ be ((l.length : Int)) 8 ++ l ++ more) 0 4 = 568597617 := by
    have t := vat_be (568597617) (([] : List Int)) (be q0 2 ++ be 1 2 ++ be q2 8 ++ be q3 8 ++ be ((l.length : Int)) 8 ++ l ++ more) 0 4 (by simp [be_length]) (by decide) (by omega) (by show _ < (256 : Int) ^ 4; simp only [show (256 : Int) ^ 4 = 4294967296 from by decide]; omega)
    simpa only [List.nil_append, List.append_assoc] using t
  have e1 : vat (be 568597617 4 ++ be q0 2 ++ be 1 2 ++ be q2 8 ++ be q3 8 ++ be ((l.length : Int)) 8 ++ l ++ more) 4 2 = q0 := by
    have t := vat_be (q0) (be 568597617 4) (be 1 2 ++ be q2 8 ++ be q3 8 ++ be ((l.length : Int)) 8 ++ l ++ more) 4 2 (by simp [be_length]) (by decide) (by omega) (by show _ < (256 : Int) ^ 2; simp only [show (256 : Int) ^ 2 = 65536 from by decide]; omega)
    simpa only [List.nil_append, List.append_assoc] using t
  have e2 : vat (be 568597617 4 ++ be q0 2 ++ be 1 2 ++ be q2 8 ++ be q3 8 ++ be ((l.length : Int)) 8 ++ l ++ more) 6 2 = 1 := by
    have t := vat_be (1) (be 568597617 4 ++ be q0 2) (be q2 8 ++ be q3 8 ++ be ((l.length : Int)) 8 ++ l ++ more) 6 2 (by simp [be_length]) (by decide) (by omega) (by show _ < (256 : Int) ^ 2; simp only [show (256 : Int) ^ 2 = 65536 from by decide]; omega)
    simpa only [List.nil_append, List.append_assoc] using t
  have e3 : vat (be 568597617 4 ++ be q0 2 ++ be 1 2 ++ be q2 8 ++ be q3 8 ++ be ((l.length : Int)) 8 ++ l ++ more) 8 8 = q2 := by
    have t := vat_be (q2) (be 568597617 4 ++ be q0 2 ++ be 1 2) (be q3 8 ++ be ((l.length : Int)) 8 ++ l ++ more) 8 8 (by simp [be_length]) (by decide) (by omega) (by show _ < (256 : Int) ^ 8; simp only [show (256 : Int) ^ 8 = 18446744073709551616 from by decide]; omega)
    simpa only [List.nil_append, List.append_assoc] using t
  have e4 : vat (be 568597617 4 ++ be q0 2 ++ be 1 2 ++ be q2 8 ++ be q3 8 ++ be ((l.length : Int)) 8 ++ l ++ more) 16 8 = q3 := by
    have t := vat_be (q3) (be 568597617 4 ++ be q0 2 ++ be 1 2 ++ be q2 8) (be ((l.length : Int)) 8 ++ l ++ more) 16 8 (by simp [be_length]) (by decide) (by omega) (by show _ < (256 : Int) ^ 8; simp only [show (256 : Int) ^ 8 = 18446744073709551616 from by decide]; omega)
    simpa only [List.nil_append, List.append_assoc] using t
  have e5 : vat (be 568597617 4 ++ be q0 2 ++ be 1 2 ++ be q2 8 ++ be q3 8 ++ be ((l.length : Int)) 8 ++ l ++ more) 24 8 = (l.length : Int) := by
    have t := vat_be ((l.length : Int)) (be 568597617 4 ++ be q0 2 ++ be 1 2 ++ be q2 8 ++ be q3 8) (l ++ more) 24 8 (by simp [be_length]) (by decide) (by omega) (by show _ < (256 : Int) ^ 8; simp only [show (256 : Int) ^ 8 = 18446744073709551616 from by decide]; omega)
    simpa only [List.nil_append, List.append_assoc] using t
  have hc := cutmid (be 568597617 4 ++ be q0 2 ++ be 1 2 ++ be q2 8 ++ be q3 8 ++ be ((l.length : Int)) 8) l more 32 hPl l.length rfl
  have hT : (be 568597617 4 ++ be q0 2 ++ be 1 2 ++ be q2 8 ++ be q3 8 ++ be ((l.length : Int)) 8 ++ l ++ more).length = 32 + l.length + more.length := by rw [List.length_append, List.length_append, hPl]
  refine ⟨be 568597617 4 ++ be q0 2 ++ be 1 2 ++ be q2 8 ++ be q3 8 ++ be ((l.length : Int)) 8 ++ l, ?_, by rw [List.length_append, hPl], ?_⟩
  · unfold wire_EncodeRequest.f
    have hx : (0 ≤ q0 ∧ q0 ≤ 65535) ∧ (0 ≤ (1 : Int) ∧ (1 : Int) ≤ 65535) ∧ (0 ≤ (l.length : Int) ∧ (l.length : Int) ≤ 18446744073709551615) ∧ l.length ≤ 140737488355000 := ⟨rq0, by decide, by omega, by omega⟩
    have hy : ¬ ((l.length : Int) > 4294967295) := by omega
    rw [if_pos hx, hp]
    simp [hy]
  obtain ⟨T, hTe⟩ : ∃ T, T = be 568597617 4 ++ be q0 2 ++ be 1 2 ++ be q2 8 ++ be q3 8 ++ be ((l.length : Int)) 8 ++ l ++ more := ⟨_, rfl⟩
  rw [← hTe] at e0 e1 e2 e3 e4 e5 hc hT ⊢
  clear hTe hPl
  have m0 : (568597617) % 4294967296 = 568597617 := by omega
  have m1 : (q0) % 65536 = q0 := by omega
  have m2 : (1) % 65536 = 1 := by omega
  have hn : (32 + (l.length : Int)).toNat = 32 + l.length := by omega
  have g0 : T.length ≤ 140737488355000 := by omega
  have g1 : ¬ T.length < 32 := by omega
  have g2 : ¬ (T.length : Int) < 32 + (l.length : Int) := by omega
  have g3 : (32 : Int).toNat = 32 := rfl
  constructor
  · intro hf
    have g4 : ¬ (l.length : Int) > most := by omega
    unfold wire_DecodeRequest.f
    simp only [e0, e1, e2, e3, e4, e5, m0, m1, m2, hp]
    simp [g0, g1, g2, g4, hn, hc, s0, s1, hp]
  · intro hf
    have g4 : (l.length : Int) > most := by omega
    unfold wire_DecodeRequest.f
    simp only [e0, e1, e2, e3, e4, e5, m0, m1, m2, hp]
    simp [g0, g1, g2, g4, hn, hc, s0, s1, hp]

theorem back_chunk_false (c0 : Int) (c1 : Int) (c2 : Int) (l more : List Int) (most : Int) (rc0 : 0 ≤ c0 ∧ c0 ≤ 65535) (rc1 : 0 ≤ c1 ∧ c1 ≤ 65535) (rc2 : 0 ≤ c2 ∧ c2 ≤ 18446744073709551615) (hl : l.length ≤ 1048576) (hm : more.length ≤ 1048576) (s0 : 0 ≤ most) (s1 : most ≤ 4294967295) :
    ∃ A, wire_EncodeChunk.f c0 c1 c2 0 l false = some A ∧ A.length = 20 + l.length ∧ ((l.length : Int) ≤ most → wire_DecodeChunk.f (A ++ more) most false = some (c0, c1, c2, 0, l, 20 + (l.length : Int), 0)) ∧ (¬ (l.length : Int) ≤ most → wire_DecodeChunk.f (A ++ more) most false = some (c0, c1, c2, 0, [], 20, 12)) := by
  have hPl : (be 1720595439 4 ++ be c0 2 ++ be c1 2 ++ be c2 8 ++ be ((l.length : Int)) 4).length = 20 := by simp [be_length]
  have e0 : vat (be 1720595439 4 ++ be c0 2 ++ be c1 2 ++ be c2 8 ++ be ((l.length : Int)) 4 ++ l ++ more) 0 4 = 1720595439 := by
    have t := vat_be (1720595439) (([] : List Int)) (be c0 2 ++ be c1 2 ++ be c2 8 ++ be ((l.length : Int)) 4 ++ l ++ more) 0 4 (by simp [be_length]) (by decide) (by omega) (by show _ < (256 : Int) ^ 4; simp only [show (256 : Int) ^ 4 = 4294967296 from by decide]; omega)
    simpa only [List.nil_append, List.append_assoc] using t
  have e1 : vat (be 1720595439 4 ++ be c0 2 ++ be c1 2 ++ be c2 8 ++ be ((l.length : Int)) 4 ++ l ++ more) 4 2 = c0 := by
    have t := vat_be (c0) (be 1720595439 4) (be c1 2 ++ be c2 8 ++ be ((l.length : Int)) 4 ++ l ++ more) 4 2 (by simp [be_length]) (by decide) (by omega) (by show _ < (256 : Int) ^ 2; simp only [show (256 : Int) ^ 2 = 65536 from by decide]; omega)
    simpa only [List.nil_append, List.append_assoc] using t
  have e2 : vat (be 1720595439 4 ++ be c0 2 ++ be c1 2 ++ be c2 8 ++ be ((l.length : Int)) 4 ++ l ++ more) 6 2 = c1 := by
    have t := vat_be (c1) (be 1720595439 4 ++ be c0 2) (be c2 8 ++ be ((l.length : Int)) 4 ++ l ++ more) 6 2 (by simp [be_length]) (by decide) (by omega) (by show _ < (256 : Int) ^ 2; simp only [show (256 : Int) ^ 2 = 65536 from by decide]; omega)
    simpa only [List.nil_append, List.append_assoc] using t
  have e3 : vat (be 1720595439 4 ++ be c0 2 ++ be c1 2 ++ be c2 8 ++ be ((l.length : Int)) 4 ++ l ++ more) 8 8 = c2 := by
    have t := vat_be (c2) (be 1720595439 4 ++ be c0 2 ++ be c1 2) (be ((l.length : Int)) 4 ++ l ++ more) 8 8 (by simp [be_length]) (by decide) (by omega) (by show _ < (256 : Int) ^ 8; simp only [show (256 : Int) ^ 8 = 18446744073709551616 from by decide]; omega)
    simpa only [List.nil_append, List.append_assoc] using t
  have e4 : vat (be 1720595439 4 ++ be c0 2 ++ be c1 2 ++ be c2 8 ++ be ((l.length : Int)) 4 ++ l ++ more) 16 4 = (l.length : Int) := by
    have t := vat_be ((l.length : Int)) (be 1720595439 4 ++ be c0 2 ++ be c1 2 ++ be c2 8) (l ++ more) 16 4 (by simp [be_length]) (by decide) (by omega) (by show _ < (256 : Int) ^ 4; simp only [show (256 : Int) ^ 4 = 4294967296 from by decide]; omega)
    simpa only [List.nil_append, List.append_assoc] using t
  have hc := cutmid (be 1720595439 4 ++ be c0 2 ++ be c1 2 ++ be c2 8 ++ be ((l.length : Int)) 4) l more 20 hPl l.length rfl
  have hT : (be 1720595439 4 ++ be c0 2 ++ be c1 2 ++ be c2 8 ++ be ((l.length : Int)) 4 ++ l ++ more).length = 20 + l.length + more.length := by rw [List.length_append, List.length_append, hPl]
  refine ⟨be 1720595439 4 ++ be c0 2 ++ be c1 2 ++ be c2 8 ++ be ((l.length : Int)) 4 ++ l, ?_, by rw [List.length_append, hPl], ?_⟩
  · unfold wire_EncodeChunk.f
    have hx : (0 ≤ c0 ∧ c0 ≤ 65535) ∧ (0 ≤ c1 ∧ c1 ≤ 65535) ∧ l.length ≤ 140737488355000 := ⟨rc0, rc1, by omega⟩
    rw [if_pos hx, be4_mod]
    simp
  obtain ⟨T, hTe⟩ : ∃ T, T = be 1720595439 4 ++ be c0 2 ++ be c1 2 ++ be c2 8 ++ be ((l.length : Int)) 4 ++ l ++ more := ⟨_, rfl⟩
  rw [← hTe] at e0 e1 e2 e3 e4 hc hT ⊢
  clear hTe hPl
  have m0 : (1720595439) % 4294967296 = 1720595439 := by omega
  have m1 : (c0) % 65536 = c0 := by omega
  have m2 : (c1) % 65536 = c1 := by omega
  have m4 : ((l.length : Int)) % 4294967296 = (l.length : Int) := by omega
  have hn : (20 + (l.length : Int)).toNat = 20 + l.length := by omega
  have g0 : T.length ≤ 140737488355000 := by omega
  have g1 : ¬ T.length < 20 := by omega
  have g2 : ¬ (T.length : Int) < 20 + (l.length : Int) := by omega
  have g3 : (20 : Int).toNat = 20 := rfl
  constructor
  · intro hf
    have g4 : ¬ (l.length : Int) > most := by omega
    unfold wire_DecodeChunk.f
    simp only [e0, e1, e2, e3, e4, m0, m1, m2, m4]
    simp [g0, g1, g2, g4, hn, hc, s0, s1]
  · intro hf
    have g4 : (l.length : Int) > most := by omega
    unfold wire_DecodeChunk.f
    simp only [e0, e1, e2, e3, e4, m0, m1, m2, m4]
    simp [g0, g1, g2, g4, hn, hc, s0, s1]

theorem back_chunk_true (c0 : Int) (c1 : Int) (c2 : Int) (c3 : Int) (l more : List Int) (most : Int) (rc0 : 0 ≤ c0 ∧ c0 ≤ 65535) (rc1 : 0 ≤ c1 ∧ c1 ≤ 65535) (rc2 : 0 ≤ c2 ∧ c2 ≤ 18446744073709551615) (rc3 : 0 ≤ c3 ∧ c3 ≤ 18446744073709551615) (hl : l.length ≤ 1048576) (hm : more.length ≤ 1048576) (s0 : 0 ≤ most) (s1 : most ≤ 4294967295) :
    ∃ A, wire_EncodeChunk.f c0 c1 c2 c3 l true = some A ∧ A.length = 32 + l.length ∧ ((l.length : Int) ≤ most → wire_DecodeChunk.f (A ++ more) most true = some (c0, c1, c2, c3, l, 32 + (l.length : Int), 0)) ∧ (¬ (l.length : Int) ≤ most → wire_DecodeChunk.f (A ++ more) most true = some (c0, c1, c2, c3, [], 32, 12)) := by
  have hPl : (be 1854547852 4 ++ be c0 2 ++ be c1 2 ++ be c2 8 ++ be c3 8 ++ be ((l.length : Int)) 8).length = 32 := by simp [be_length]
  have e0 : vat (be 1854547852 4 ++ be c0 2 ++ be c1 2 ++ be c2 8 ++ be c3 8 ++ be ((l.length : Int)) 8 ++ l ++ more) 0 4 = 1854547852 := by
    have t := vat_be (1854547852) (([] : List Int)) (be c0 2 ++ be c1 2 ++ be c2 8 ++ be c3 8 ++ be ((l.length : Int)) 8 ++ l ++ more) 0 4 (by simp [be_length]) (by decide) (by omega) (by show _ < (256 : Int) ^ 4; simp only [show (256 : Int) ^ 4 = 4294967296 from by decide]; omega)
    simpa only [List.nil_append, List.append_assoc] using t
  have e1 : vat (be 1854547852 4 ++ be c0 2 ++ be c1 2 ++ be c2 8 ++ be c3 8 ++ be ((l.length : Int)) 8 ++ l ++ more) 4 2 = c0 := by
    have t := vat_be (c0) (be 1854547852 4) (be c1 2 ++ be c2 8 ++ be c3 8 ++ be ((l.length : Int)) 8 ++ l ++ more) 4 2 (by simp [be_length]) (by decide) (by omega) (by show _ < (256 : Int) ^ 2; simp only [show (256 : Int) ^ 2 = 65536 from by decide]; omega)
    simpa only [List.nil_append, List.append_assoc] using t
  have e2 : vat (be 1854547852 4 ++ be c0 2 ++ be c1 2 ++ be c2 8 ++ be c3 8 ++ be ((l.length : Int)) 8 ++ l ++ more) 6 2 = c1 := by
    have t := vat_be (c1) (be 1854547852 4 ++ be c0 2) (be c2 8 ++ be c3 8 ++ be ((l.length : Int)) 8 ++ l ++ more) 6 2 (by simp [be_length]) (by decide) (by omega) (by show _ < (256 : Int) ^ 2; simp only [show (256 : Int) ^ 2 = 65536 from by decide]; omega)
    simpa only [List.nil_append, List.append_assoc] using t
  have e3 : vat (be 1854547852 4 ++ be c0 2 ++ be c1 2 ++ be c2 8 ++ be c3 8 ++ be ((l.length : Int)) 8 ++ l ++ more) 8 8 = c2 := by
    have t := vat_be (c2) (be 1854547852 4 ++ be c0 2 ++ be c1 2) (be c3 8 ++ be ((l.length : Int)) 8 ++ l ++ more) 8 8 (by simp [be_length]) (by decide) (by omega) (by show _ < (256 : Int) ^ 8; simp only [show (256 : Int) ^ 8 = 18446744073709551616 from by decide]; omega)
    simpa only [List.nil_append, List.append_assoc] using t
  have e4 : vat (be 1854547852 4 ++ be c0 2 ++ be c1 2 ++ be c2 8 ++ be c3 8 ++ be ((l.length : Int)) 8 ++ l ++ more) 16 8 = c3 := by
    have t := vat_be (c3) (be 1854547852 4 ++ be c0 2 ++ be c1 2 ++ be c2 8) (be ((l.length : Int)) 8 ++ l ++ more) 16 8 (by simp [be_length]) (by decide) (by omega) (by show _ < (256 : Int) ^ 8; simp only [show (256 : Int) ^ 8 = 18446744073709551616 from by decide]; omega)
    simpa only [List.nil_append, List.append_assoc] using t
  have e5 : vat (be 1854547852 4 ++ be c0 2 ++ be c1 2 ++ be c2 8 ++ be c3 8 ++ be ((l.length : Int)) 8 ++ l ++ more) 24 8 = (l.length : Int) := by
    have t := vat_be ((l.length : Int)) (be 1854547852 4 ++ be c0 2 ++ be c1 2 ++ be c2 8 ++ be c3 8) (l ++ more) 24 8 (by simp [be_length]) (by decide) (by omega) (by show _ < (256 : Int) ^ 8; simp only [show (256 : Int) ^ 8 = 18446744073709551616 from by decide]; omega)
    simpa only [List.nil_append, List.append_assoc] using t
  have hc := cutmid (be 1854547852 4 ++ be c0 2 ++ be c1 2 ++ be c2 8 ++ be c3 8 ++ be ((l.length : Int)) 8) l more 32 hPl l.length rfl
  have hT : (be 1854547852 4 ++ be c0 2 ++ be c1 2 ++ be c2 8 ++ be c3 8 ++ be ((l.length : Int)) 8 ++ l ++ more).length = 32 + l.length + more.length := by rw [List.length_append, List.length_append, hPl]
  refine ⟨be 1854547852 4 ++ be c0 2 ++ be c1 2 ++ be c2 8 ++ be c3 8 ++ be ((l.length : Int)) 8 ++ l, ?_, by rw [List.length_append, hPl], ?_⟩
  · unfold wire_EncodeChunk.f
    have hx : (0 ≤ c0 ∧ c0 ≤ 65535) ∧ (0 ≤ c1 ∧ c1 ≤ 65535) ∧ l.length ≤ 140737488355000 := ⟨rc0, rc1, by omega⟩
    rw [if_pos hx]
    simp
  obtain ⟨T, hTe⟩ : ∃ T, T = be 1854547852 4 ++ be c0 2 ++ be c1 2 ++ be c2 8 ++ be c3 8 ++ be ((l.length : Int)) 8 ++ l ++ more := ⟨_, rfl⟩
  rw [← hTe] at e0 e1 e2 e3 e4 e5 hc hT ⊢
  clear hTe hPl
  have m0 : (1854547852) % 4294967296 = 1854547852 := by omega
  have m1 : (c0) % 65536 = c0 := by omega
  have m2 : (c1) % 65536 = c1 := by omega
  have hn : (32 + (l.length : Int)).toNat = 32 + l.length := by omega
  have g0 : T.length ≤ 140737488355000 := by omega
  have g1 : ¬ T.length < 32 := by omega
  have g2 : ¬ (T.length : Int) < 32 + (l.length : Int) := by omega
  have g3 : (32 : Int).toNat = 32 := rfl
  constructor
  · intro hf
    have g4 : ¬ (l.length : Int) > most := by omega
    unfold wire_DecodeChunk.f
    simp only [e0, e1, e2, e3, e4, e5, m0, m1, m2]
    simp [g0, g1, g2, g4, hn, hc, s0, s1]
  · intro hf
    have g4 : (l.length : Int) > most := by omega
    unfold wire_DecodeChunk.f
    simp only [e0, e1, e2, e3, e4, e5, m0, m1, m2]
    simp [g0, g1, g2, g4, hn, hc, s0, s1]

theorem or_range (q : Int) (h : 0 ≤ q ∧ q ≤ 65535) : 0 ≤ Go.bits .or .u16 q 32 ∧ Go.bits .or .u16 q 32 ≤ 65535 := by
  rw [u16_or q 32 h.1 (by omega) (by decide) (by decide)]
  have := Nat.or_lt_two_pow (x := q.toNat) (y := (32 : Int).toNat) (n := 16) (by omega) (by decide)
  omega
theorem paid_or (q : Int) (h : 0 ≤ q ∧ q ≤ 65535) (x : Bool) : paidB (Go.bits .or .u16 q 32) 1 x = true := by
  unfold paidB
  cases x
  · rfl
  · have hr := or_range q h
    rw [if_pos rfl, u16_and _ 32 hr.1 (by omega) (by decide) (by decide), u16_or q 32 h.1 (by omega) (by decide) (by decide)]
    have e : ((((q.toNat ||| (32 : Int).toNat : Nat) : Int)).toNat &&& (32 : Int).toNat) = 32 := by
      show (q.toNat ||| 32) &&& 32 = 32
      apply Nat.eq_of_testBit_eq
      intro i
      rw [Nat.testBit_and, Nat.testBit_or]
      cases q.toNat.testBit i <;> cases (32 : Nat).testBit i <;> rfl
    rw [e]
    rfl

end Go.Proofs.Ytilgfhiomcfmhaa.PureB
