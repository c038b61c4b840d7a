/- WireBack, walked: a message that is laid down is read again, whatever stands behind, just if its data are not longer than the greatest length. -/
import Derived.Test.YtilgfhiomcfmhaaPureBack
import Derived.Test.YtilgfhiomcfmhaaPDx1
import Derived.Test.YtilgfhiomcfmhaaPDx4
import Derived.Test.YtilgfhiomcfmhaaWire
import Derived.Test.YtilgfhiomcfmhaaTwn
import Derived.Deep.RegionHeld3
namespace Go.Proofs.Ytilgfhiomcfmhaa.PureB
open Go.RowKit Go.Proofs.Ytilgfhiomcfmhaa.Hand Go.Proofs.Ytilgfhiomcfmhaa.PD Go.Proofs.Ytilgfhiomcfmhaa.Octa Go.Proofs.YtilgfhiomcfmhaaW.PrintWords Go.Proofs.YtilgfhiomcfmhaaW.PrintLast
set_option linter.unusedSimpArgs false
set_option linter.unusedVariables false

theorem wrap_up {i : Int} (h0 : 0 ≤ i) (h1 : i < 9223372036854775807) : wrap64 (i + 1) = i + 1 := by unfold wrap64; omega
theorem same_go (x : List Int) (hl : x.length ≤ 140737488355000) : ∀ (d i k : Nat), i + d = x.length → d < k → spindleref01_Same.l0 k x x (i : Int) = some true := by
  intro d
  induction d with
  | zero =>
    intro i k h hk
    obtain ⟨k, rfl⟩ : ∃ m, k = m + 1 := ⟨k - 1, by omega⟩
    simp only [spindleref01_Same.l0]
    rw [if_neg (by omega)]
  | succ d ih =>
    intro i k h hk
    obtain ⟨k, rfl⟩ : ∃ m, k = m + 1 := ⟨k - 1, by omega⟩
    simp only [spindleref01_Same.l0]
    rw [if_pos (by omega), if_pos (by omega), if_pos (by omega), if_pos True.intro, wrap_up (by omega) (by omega)]
    exact ih (i + 1) k (by omega) (by omega)
theorem same_is (x : List Int) (hl : x.length ≤ 140737488355000) (k : Nat) (hk : x.length < k) : spindlelaw08_same.f k x x = some true := by
  unfold spindlelaw08_same.f spindleref08_Same.f spindleref01_Same.f
  have e := same_go x hl x.length 0 k (by omega) hk
  rw [if_pos rfl]
  rw [show ((0 : Nat) : Int) = 0 from rfl] at e
  rw [e]
  rfl
theorem below_next {w a b : World} (h : Below w.heap.size w a) (hb : Below a.heap.size a b) : Below w.heap.size w b := below_then h h.size hb
theorem own_next {w w' : World} {base : Nat} {e : TypeId} {size n : Nat} {v : Value} {xs : List Value} (h : w.ownsRow base e size v n xs) (hb : Below w.heap.size w w') : w'.ownsRow base e size v n xs :=
  own_move h fun k hk => hb.block k (own_lt h k hk)
theorem num_same (e : Int) (w : World) : Calls Try.prog 13 #[.int .i64 e] w fun x w' => x = .returned (.int .i64 e) ∧ w = w' := by
  go_enter Try.func13, Try.ntmps13
  go_wp2
  go_ret
  exact ⟨rfl, rfl⟩
theorem fits_yes (A : Option Addr) (n c : Nat) (m : Int) (w : World) (hn : n ≤ 1048576) (h : (n : Int) ≤ m) (hm : m ≤ 4294967295) : Calls Try.prog 60 #[.slice A n c, .int .u32 m] w fun x w' => x = .returned (.bool true) ∧ w = w' := by
  have e1 : IntKind.u64.wrap (n : Int) = (n : Int) := by rw [IntKind.wrap_u64]; omega
  have e2 : IntKind.u64.wrap m = m := by rw [IntKind.wrap_u64]; omega
  go_enter Try.func60, Try.ntmps60
  go_wp2
  go_ret
  exact ⟨by simp [*], rfl⟩
theorem fits_no (A : Option Addr) (n c : Nat) (m : Int) (w : World) (hn : n ≤ 1048576) (h0 : 0 ≤ m) (h : ¬ (n : Int) ≤ m) (hm : m ≤ 4294967295) : Calls Try.prog 60 #[.slice A n c, .int .u32 m] w fun x w' => x = .returned (.bool false) ∧ w = w' := by
  have e1 : IntKind.u64.wrap (n : Int) = (n : Int) := by rw [IntKind.wrap_u64]; omega
  have e2 : IntKind.u64.wrap m = m := by rw [IntKind.wrap_u64]; omega
  go_enter Try.func60, Try.ntmps60
  go_wp2
  go_ret
  exact ⟨by simp [*]; try omega, rfl⟩
end Go.Proofs.Ytilgfhiomcfmhaa.PureB
