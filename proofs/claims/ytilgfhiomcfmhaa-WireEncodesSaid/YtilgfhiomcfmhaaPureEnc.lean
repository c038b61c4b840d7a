/- The document's encoders lay down what the program's do. (Over the print PE.) -/
import Derived.Test.YtilgfhiomcfmhaaPEx3
import Derived.Test.YtilgfhiomcfmhaaPureBytes
namespace Go.Proofs.Ytilgfhiomcfmhaa.PureE
open Go.RowKit Go.Proofs.Ytilgfhiomcfmhaa.Hand Go.Proofs.Ytilgfhiomcfmhaa.PE Go.Proofs.Ytilgfhiomcfmhaa.Octa Go.Proofs.Ytilgfhiomcfmhaa.Octa Go.Proofs.YtilgfhiomcfmhaaW.PrintWords Go.Proofs.YtilgfhiomcfmhaaW.PrintLast

theorem wrap_up {i : Int} (h0 : 0 ≤ i) (h1 : i < 9223372036854775807) : wrap64 (i + 1) = i + 1 := by unfold wrap64; omega
theorem wrap_dn {i : Int} (h0 : 0 ≤ i) (h1 : i < 9223372036854775807) : wrap64 (i - 1) = i - 1 := by unfold wrap64; omega

theorem same_go (x : List Int) (hl : x.length ≤ 140737488355000) : ∀ (d i k : Nat), i + d = x.length → d < k → spindleref01_Same.l0 k x x (i : Int) = some true := by
  intro d
  induction d with
  | zero =>
    intro i k h hk
    obtain ⟨k, rfl⟩ : ∃ m, k = m + 1 := ⟨k - 1, by omega⟩
    simp only [spindleref01_Same.l0]
    rw [if_neg (by omega)]
  | succ d ih =>
    intro i k h hk
    obtain ⟨k, rfl⟩ : ∃ m, k = m + 1 := ⟨k - 1, by omega⟩
    simp only [spindleref01_Same.l0]
    rw [if_pos (by omega), if_pos (by omega), if_pos (by omega), if_pos True.intro, wrap_up (by omega) (by omega)]
    exact ih (i + 1) k (by omega) (by omega)

theorem same_is (x : List Int) (hl : x.length ≤ 140737488355000) (k : Nat) (hk : x.length < k) : spindlelaw08_same.f k x x = some true := by
  unfold spindlelaw08_same.f spindleref08_Same.f spindleref01_Same.f
  have e := same_go x hl x.length 0 k (by omega) hk
  rw [if_pos rfl]
  rw [show ((0 : Nat) : Int) = 0 from rfl] at e
  rw [e]
  rfl

theorem alive_go : ∀ k, spindlelaw08_alive.f (40 + k) = some true := by
  intro k
  induction k with
  | zero => decide +kernel
  | succ k ih => exact spindlelaw08_alive.mono (40 + k) _ ih

theorem alive_ge (k : Nat) (h : 40 ≤ k) : spindlelaw08_alive.f k = some true := by
  have := alive_go (k - 40)
  rwa [show 40 + (k - 40) = k from by omega] at this

theorem big_go : ∀ (j : Nat) (v : Int) (s : List Int) (k : Nat), j < 1000 → j < k → spindleref01_Big.l0 k v (List.replicate j 0 ++ s) ((j : Int) - 1) = some (be v j ++ s) := by
  intro j
  induction j with
  | zero =>
    intro v s k _ hk
    obtain ⟨k, rfl⟩ : ∃ m, k = m + 1 := ⟨k - 1, by omega⟩
    simp only [spindleref01_Big.l0]
    rw [if_neg (by omega)]
    rfl
  | succ j ih =>
    intro v s k hj hk
    obtain ⟨k, rfl⟩ : ∃ m, k = m + 1 := ⟨k - 1, by omega⟩
    simp only [spindleref01_Big.l0]
    have e1 : ((j + 1 : Nat) : Int) - 1 = (j : Int) := by omega
    rw [e1, if_pos (by omega), if_pos (by omega), if_pos (by simp; omega), wrap_dn (by omega) (by omega), Int.toNat_natCast]
    have e2 : (List.replicate (j + 1) (0 : Int) ++ s).set j (v % 256) = List.replicate j 0 ++ (v % 256 :: s) := by
      rw [List.replicate_succ', List.append_assoc, List.set_append_right _ _ (by simp)]
      simp
    rw [e2, ih (v / 256) (v % 256 :: s) k (by omega) (by omega), be_succ]
    simp

theorem big_is (v : Int) (n : Nat) (hn : n ≤ 8) (k : Nat) (hk : 9 ≤ k) : spindleref01_Big.f k v (n : Int) = some (be v n) := by
  unfold spindleref01_Big.f
  have hw : wrap64 ((n : Int) - 1) = (n : Int) - 1 := by unfold wrap64; omega
  rw [if_pos (by omega), Int.toNat_natCast, if_pos (by omega), hw]
  have := big_go n v [] k (by omega) (by omega)
  simpa using this

/-- Fields, one behind the other. -/
def lays (l : List S133) : List Int := l.flatMap fun s => be s.f0 s.f1.toNat

theorem lay_go (b : List Int) (l : List S133) (hf : ∀ s ∈ l, 0 ≤ s.f1 ∧ s.f1 ≤ 8) (hl : l.length ≤ 100) (hb : b.length ≤ 140737488351232) : ∀ (d i : Nat) (o : List Int) (k : Nat), i + d = l.length → o.length ≤ 8 * i → d + 9 < k →
    spindleref08_Lay.l0 k l b o (i : Int) = some (o ++ lays (l.drop i) ++ b) := by
  intro d
  induction d with
  | zero =>
    intro i o k h ho hk
    obtain ⟨k, rfl⟩ : ∃ m, k = m + 1 := ⟨k - 1, by omega⟩
    simp only [spindleref08_Lay.l0]
    rw [if_neg (by omega), if_pos (by omega), List.drop_eq_nil_of_le (by omega)]
    simp [lays]
  | succ d ih =>
    intro i o k h ho hk
    obtain ⟨k, rfl⟩ : ∃ m, k = m + 1 := ⟨k - 1, by omega⟩
    simp only [spindleref08_Lay.l0]
    have hi : i < l.length := by omega
    have hr : rd_T133 l (i : Int) = l[i] := by simp [rd_T133, List.getD_eq_getElem?_getD, List.getElem?_eq_getElem hi]
    obtain ⟨f0, f1⟩ := hf l[i] (List.getElem_mem hi)
    rw [if_pos (by omega), if_pos (by omega), hr]
    have hg := big_is l[i].f0 l[i].f1.toNat (by omega) k (by omega)
    rw [Int.toNat_of_nonneg f0] at hg
    rw [hg]
    simp only [Option.bind_some]
    rw [if_pos (by rw [be_length]; omega), wrap_up (by omega) (by omega)]
    have hn := ih (i + 1) (o ++ be l[i].f0 l[i].f1.toNat) k (by omega) (by rw [List.length_append, be_length]; omega) (by omega)
    rw [show ((i + 1 : Nat) : Int) = (i : Int) + 1 from by omega] at hn
    rw [hn, List.drop_eq_getElem_cons hi]
    simp only [lays, List.flatMap_cons, List.append_assoc]

theorem lay_is (l : List S133) (b : List Int) (hf : ∀ s ∈ l, 0 ≤ s.f1 ∧ s.f1 ≤ 8) (hl : l.length ≤ 100) (hb : b.length ≤ 140737488351232) (k : Nat) (hk : l.length + 9 < k) :
    spindleref08_Lay.f k l b = some (lays l ++ b) := by
  unfold spindleref08_Lay.f
  have := lay_go b l hf hl hb l.length 0 [] k (by omega) (by simp) hk
  simpa using this

theorem u64_up {a : Int} (h0 : 0 ≤ a) (h1 : a < 18446744073709551616) : IntKind.u64.wrap a = a := by
  first | exact IntWalk.u64_in _ (by omega) | (simp [IntKind.wrap, IntKind.bits, IntKind.signed]; omega) | (simp [IntKind.wrap, IntKind.bits]; omega)
theorem be4_mod (v : Int) : be (v % 4294967296) 4 = be v 4 := by
  unfold be
  simp only [List.range_succ, List.range_zero, List.nil_append, List.map_append, List.map_cons, List.map_nil, List.cons_append]
  have e0 : v % 4294967296 / 256 ^ (4 - 1 - 0) % 256 = v / 256 ^ (4 - 1 - 0) % 256 := by simp only [Nat.reduceSub]; omega
  have e1 : v % 4294967296 / 256 ^ (4 - 1 - 1) % 256 = v / 256 ^ (4 - 1 - 1) % 256 := by simp only [Nat.reduceSub]; omega
  have e2 : v % 4294967296 / 256 ^ (4 - 1 - 2) % 256 = v / 256 ^ (4 - 1 - 2) % 256 := by simp only [Nat.reduceSub]; omega
  have e3 : v % 4294967296 / 256 ^ (4 - 1 - 3) % 256 = v / 256 ^ (4 - 1 - 3) % 256 := by simp only [Nat.reduceSub]; omega
  show [_, _, _, _] = [_, _, _, _]
  rw [e0, e1, e2, e3]
theorem enc_option (o0 o1 : Int) (b : Bool) (l : List Int) (h0 : 0 ≤ o0 ∧ o0 ≤ 4294967295) (h1 : 0 ≤ o1 ∧ o1 ≤ 4294967295) (hl : l.length ≤ 140737488351232) (k : Nat) (hk : 30 ≤ k) : spindleref08_Option.f k o0 o1 b l = wire_EncodeOption.f o0 o1 b l := by
  unfold spindleref08_Option.f wire_EncodeOption.f
  have hx : (0 ≤ o0 ∧ o0 ≤ 4294967295) ∧ (0 ≤ o1 ∧ o1 ≤ 4294967295) ∧ l.length ≤ 140737488355000 := ⟨h0, h1, by omega⟩
  rw [u64_up h1.1 (by omega), u64_up (a := (l.length : Int)) (by omega) (by omega), u64_up h0.1 (by omega), lay_is _ _ (by simp) (by simp) hl k (by simp; omega), if_pos hx]
  cases b
  · by_cases h : o1 = (l.length : Int)
    · simp [h, lays]
    · simp [h]
  · simp
theorem enc_reply (r0 r1 : Int) (l : List Int) (h0 : 0 ≤ r0 ∧ r0 ≤ 4294967295) (h1 : 0 ≤ r1 ∧ r1 ≤ 4294967295) (hl : l.length ≤ 140737488351232) (k : Nat) (hk : 30 ≤ k) : spindleref08_Reply.f k r0 r1 l = wire_EncodeReply.f r0 r1 l := by
  unfold spindleref08_Reply.f wire_EncodeReply.f
  have hx : (0 ≤ r0 ∧ r0 ≤ 4294967295) ∧ (0 ≤ r1 ∧ r1 ≤ 4294967295) ∧ l.length ≤ 140737488355000 := ⟨h0, h1, by omega⟩
  rw [if_pos hx, u64_up h1.1 (by omega), u64_up (a := (l.length : Int)) (by omega) (by omega), u64_up h0.1 (by omega), lay_is _ _ (by simp) (by simp) hl k (by simp; omega), be4_mod]
  simp [lays]
theorem enc_chunk (c0 c1 c2 c3 : Int) (l : List Int) (x : Bool) (h0 : 0 ≤ c0 ∧ c0 ≤ 65535) (h1 : 0 ≤ c1 ∧ c1 ≤ 65535) (hl : l.length ≤ 140737488351232) (k : Nat) (hk : 30 ≤ k) : spindleref08_Chunk.f k c0 c1 c2 c3 l x = wire_EncodeChunk.f c0 c1 c2 c3 l x := by
  unfold spindleref08_Chunk.f wire_EncodeChunk.f
  have hx : (0 ≤ c0 ∧ c0 ≤ 65535) ∧ (0 ≤ c1 ∧ c1 ≤ 65535) ∧ l.length ≤ 140737488355000 := ⟨h0, h1, by omega⟩
  rw [if_pos hx, u64_up h1.1 (by omega), u64_up (a := (l.length : Int)) (by omega) (by omega), u64_up h0.1 (by omega), be4_mod]
  cases x
  · rw [if_neg (by decide), if_neg (by decide), lay_is _ _ (by simp) (by simp) hl k (by simp; omega)]
    simp [lays]
  · rw [if_pos rfl, if_pos rfl, lay_is _ _ (by simp) (by simp) hl k (by simp; omega)]
    simp [lays]
theorem enc_request (q0 q1 q2 q3 q4 : Int) (l : List Int) (x : Bool) (h0 : 0 ≤ q0 ∧ q0 ≤ 65535) (h1 : 0 ≤ q1 ∧ q1 ≤ 65535) (h4 : 0 ≤ q4 ∧ q4 ≤ 18446744073709551615) (hl : l.length ≤ 140737488351232) (k : Nat) (hk : 31 ≤ k) : spindleref08_Request.f k q0 q1 q2 q3 q4 l x = wire_EncodeRequest.f q0 q1 q2 q3 q4 l x := by
  obtain ⟨k, rfl⟩ : ∃ j, k = j + 2 := ⟨k - 2, by omega⟩
  have hp : spindleref08_payload.f q0 q1 q2 q3 q4 l x = some (paidB q0 q1 x) := by
    unfold spindleref08_payload.f paidB
    cases x <;> rfl
  have hj : ∀ wt : Int, spindleref08_Request.j0 (k + 2) x wt q0 q1 q2 q3 q4 l = (if (l.length : Int) = wt then
      (if x = false ∧ q4 > 4294967295 then some ([], 81)
       else some (be (if x = true then 568597617 else 627086611) 4 ++ be q0 2 ++ be q1 2 ++ be q2 8 ++ be q3 8 ++ be q4 (if x = true then 8 else 4) ++ l, 0))
     else some ([], 81)) := by
    intro wt
    simp only [spindleref08_Request.j0, u64_up (a := (l.length : Int)) (by omega) (by omega)]
    by_cases hw : wt = (l.length : Int)
    · rw [if_pos hw, if_pos hw.symm]
      cases x
      · by_cases hq : q4 > 4294967295
        · simp [spindleref08_Request.j1, hq]
        · simp only [spindleref08_Request.j1, decide_eq_false hq, Bool.false_eq_true, if_false, hq, and_false]
          rw [u64_up h0.1 (by omega), u64_up h1.1 (by omega), lay_is _ _ (by simp) (by simp) hl k (by simp; omega)]
          simp [lays]
      · simp only [spindleref08_Request.j1, Bool.false_eq_true, if_false, if_true, Bool.true_eq_false, false_and]
        rw [u64_up h0.1 (by omega), u64_up h1.1 (by omega), lay_is _ _ (by simp) (by simp) hl k (by simp; omega)]
        simp [lays]
    · rw [if_neg hw, if_neg (fun e => hw e.symm)]
      simp [spindleref08_Request.j1]
  unfold spindleref08_Request.f wire_EncodeRequest.f
  have hx : (0 ≤ q0 ∧ q0 ≤ 65535) ∧ (0 ≤ q1 ∧ q1 ≤ 65535) ∧ (0 ≤ q4 ∧ q4 ≤ 18446744073709551615) ∧ l.length ≤ 140737488355000 := ⟨h0, h1, h4, by omega⟩
  rw [hp, if_pos hx]
  simp only [Option.bind_some, hj]
  cases paidB q0 q1 x <;> simp
end Go.Proofs.Ytilgfhiomcfmhaa.PureE
