/- The document's bytes of a message: Big and Lay, told as be; same and alive. (Over the print PZ.) -/
import Derived.Test.YtilgfhiomcfmhaaPZx5
import Derived.Test.YtilgfhiomcfmhaaPureBytes
namespace Go.Proofs.Ytilgfhiomcfmhaa.PureZ
open Go.RowKit Go.Proofs.Ytilgfhiomcfmhaa.Hand Go.Proofs.Ytilgfhiomcfmhaa.PZ Go.Proofs.Ytilgfhiomcfmhaa.Octa Go.Proofs.Ytilgfhiomcfmhaa.Octa Go.Proofs.YtilgfhiomcfmhaaW.PrintWords Go.Proofs.YtilgfhiomcfmhaaW.PrintLast

theorem wrap_up {i : Int} (h0 : 0 ≤ i) (h1 : i < 9223372036854775807) : wrap64 (i + 1) = i + 1 := by unfold wrap64; omega
theorem wrap_dn {i : Int} (h0 : 0 ≤ i) (h1 : i < 9223372036854775807) : wrap64 (i - 1) = i - 1 := by unfold wrap64; omega

theorem same_go (x : List Int) (hl : x.length ≤ 140737488355000) : ∀ (d i k : Nat), i + d = x.length → d < k → spindleref01_Same.l0 k x x (i : Int) = some true := by
  intro d
  induction d with
  | zero =>
    intro i k h hk
    obtain ⟨k, rfl⟩ : ∃ m, k = m + 1 := ⟨k - 1, by omega⟩
    simp only [spindleref01_Same.l0]
    rw [if_neg (by omega)]
  | succ d ih =>
    intro i k h hk
    obtain ⟨k, rfl⟩ : ∃ m, k = m + 1 := ⟨k - 1, by omega⟩
    simp only [spindleref01_Same.l0]
    rw [if_pos (by omega), if_pos (by omega), if_pos (by omega), if_pos True.intro, wrap_up (by omega) (by omega)]
    exact ih (i + 1) k (by omega) (by omega)

theorem same_is (x : List Int) (hl : x.length ≤ 140737488355000) (k : Nat) (hk : x.length < k) : spindlelaw08_same.f k x x = some true := by
  unfold spindlelaw08_same.f spindleref08_Same.f spindleref01_Same.f
  have e := same_go x hl x.length 0 k (by omega) hk
  rw [if_pos rfl]
  rw [show ((0 : Nat) : Int) = 0 from rfl] at e
  rw [e]
  rfl

theorem alive_go : ∀ k, spindlelaw08_alive.f (40 + k) = some true := by
  intro k
  induction k with
  | zero => decide +kernel
  | succ k ih => exact spindlelaw08_alive.mono (40 + k) _ ih

theorem alive_ge (k : Nat) (h : 40 ≤ k) : spindlelaw08_alive.f k = some true := by
  have := alive_go (k - 40)
  rwa [show 40 + (k - 40) = k from by omega] at this

theorem big_go : ∀ (j : Nat) (v : Int) (s : List Int) (k : Nat), j < 1000 → j < k → spindleref01_Big.l0 k v (List.replicate j 0 ++ s) ((j : Int) - 1) = some (be v j ++ s) := by
  intro j
  induction j with
  | zero =>
    intro v s k _ hk
    obtain ⟨k, rfl⟩ : ∃ m, k = m + 1 := ⟨k - 1, by omega⟩
    simp only [spindleref01_Big.l0]
    rw [if_neg (by omega)]
    rfl
  | succ j ih =>
    intro v s k hj hk
    obtain ⟨k, rfl⟩ : ∃ m, k = m + 1 := ⟨k - 1, by omega⟩
    simp only [spindleref01_Big.l0]
    have e1 : ((j + 1 : Nat) : Int) - 1 = (j : Int) := by omega
    rw [e1, if_pos (by omega), if_pos (by omega), if_pos (by simp; omega), wrap_dn (by omega) (by omega), Int.toNat_natCast]
    have e2 : (List.replicate (j + 1) (0 : Int) ++ s).set j (v % 256) = List.replicate j 0 ++ (v % 256 :: s) := by
      rw [List.replicate_succ', List.append_assoc, List.set_append_right _ _ (by simp)]
      simp
    rw [e2, ih (v / 256) (v % 256 :: s) k (by omega) (by omega), be_succ]
    simp

theorem big_is (v : Int) (n : Nat) (hn : n ≤ 8) (k : Nat) (hk : 9 ≤ k) : spindleref01_Big.f k v (n : Int) = some (be v n) := by
  unfold spindleref01_Big.f
  have hw : wrap64 ((n : Int) - 1) = (n : Int) - 1 := by unfold wrap64; omega
  rw [if_pos (by omega), Int.toNat_natCast, if_pos (by omega), hw]
  have := big_go n v [] k (by omega) (by omega)
  simpa using this

/-- Fields, one behind the other. -/
def lays (l : List S133) : List Int := l.flatMap fun s => be s.f0 s.f1.toNat

theorem lay_go (b : List Int) (l : List S133) (hf : ∀ s ∈ l, 0 ≤ s.f1 ∧ s.f1 ≤ 8) (hl : l.length ≤ 100) (hb : b.length ≤ 140737488350000) : ∀ (d i : Nat) (o : List Int) (k : Nat), i + d = l.length → o.length ≤ 8 * i → d + 9 < k →
    spindleref08_Lay.l0 k l b o (i : Int) = some (o ++ lays (l.drop i) ++ b) := by
  intro d
  induction d with
  | zero =>
    intro i o k h ho hk
    obtain ⟨k, rfl⟩ : ∃ m, k = m + 1 := ⟨k - 1, by omega⟩
    simp only [spindleref08_Lay.l0]
    rw [if_neg (by omega), if_pos (by omega), List.drop_eq_nil_of_le (by omega)]
    simp [lays]
  | succ d ih =>
    intro i o k h ho hk
    obtain ⟨k, rfl⟩ : ∃ m, k = m + 1 := ⟨k - 1, by omega⟩
    simp only [spindleref08_Lay.l0]
    have hi : i < l.length := by omega
    have hr : rd_T133 l (i : Int) = l[i] := by simp [rd_T133, List.getD_eq_getElem?_getD, List.getElem?_eq_getElem hi]
    obtain ⟨f0, f1⟩ := hf l[i] (List.getElem_mem hi)
    rw [if_pos (by omega), if_pos (by omega), hr]
    have hg := big_is l[i].f0 l[i].f1.toNat (by omega) k (by omega)
    rw [Int.toNat_of_nonneg f0] at hg
    rw [hg]
    simp only [Option.bind_some]
    rw [if_pos (by rw [be_length]; omega), wrap_up (by omega) (by omega)]
    have hn := ih (i + 1) (o ++ be l[i].f0 l[i].f1.toNat) k (by omega) (by rw [List.length_append, be_length]; omega) (by omega)
    rw [show ((i + 1 : Nat) : Int) = (i : Int) + 1 from by omega] at hn
    rw [hn, List.drop_eq_getElem_cons hi]
    simp only [lays, List.flatMap_cons, List.append_assoc]

theorem lay_is (l : List S133) (b : List Int) (hf : ∀ s ∈ l, 0 ≤ s.f1 ∧ s.f1 ≤ 8) (hl : l.length ≤ 100) (hb : b.length ≤ 140737488350000) (k : Nat) (hk : l.length + 9 < k) :
    spindleref08_Lay.f k l b = some (lays l ++ b) := by
  unfold spindleref08_Lay.f
  have := lay_go b l hf hl hb l.length 0 [] k (by omega) (by simp) hk
  simpa using this
end Go.Proofs.Ytilgfhiomcfmhaa.PureZ
