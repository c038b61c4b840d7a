/- The pieces of told's plain law that WireAgain and WirePieces share: every decoder's shape, twin, same and alive. -/
import Derived.Test.YtilgfhiomcfmhaaPWx2
import Derived.Test.YtilgfhiomcfmhaaPureTold
namespace Go.Proofs.Ytilgfhiomcfmhaa.Pure
open Go.RowKit Go.Proofs.Ytilgfhiomcfmhaa.Hand Go.Proofs.Ytilgfhiomcfmhaa.PW Go.Proofs.Ytilgfhiomcfmhaa.Octa Go.Proofs.YtilgfhiomcfmhaaW.PrintWords Go.Proofs.YtilgfhiomcfmhaaW.PrintLast

theorem told_all (i : Int) (h0 : 0 ≤ i) (h1 : i < 11) (most : Int) (hm : 0 ≤ most ∧ most ≤ 4294967295) :
    ∃ H z g, Fits H g ∧ ∀ b : List Int, Bytes b → b.length ≤ 140737488355000 → ∀ j, spindlelaw08_told.f (j + 1) i b most = some (shape H z g b) := by
  have : i = 0 ∨ i = 1 ∨ i = 2 ∨ i = 3 ∨ i = 4 ∨ i = 5 ∨ i = 6 ∨ i = 7 ∨ i = 8 ∨ i = 9 ∨ i = 10 := by omega
  have low : ∀ {i : Int}, (∃ H z g, Fits H g ∧ ∀ b : List Int, Bytes b → b.length ≤ 140737488355000 → ∀ j, spindlelaw08_told.f j i b most = some (shape H z g b)) → ∃ H z g, Fits H g ∧ ∀ b : List Int, Bytes b → b.length ≤ 140737488355000 → ∀ j, spindlelaw08_told.f (j + 1) i b most = some (shape H z g b) :=
    fun ⟨H, z, g, F, h⟩ => ⟨H, z, g, F, fun b hb hl j => h b hb hl (j + 1)⟩
  rcases this with rfl | rfl | rfl | rfl | rfl | rfl | rfl | rfl | rfl | rfl | rfl
  · exact low (told_0 most)
  · exact low (told_1 most)
  · exact low (told_2 most)
  · exact low (told_3 most)
  · exact low (told_4 most)
  · exact told_5 most hm
  · exact told_6 most hm
  · exact told_7 most hm
  · exact told_8 most hm
  · exact told_9 most hm
  · exact told_10 most hm

theorem shape_cases {H : Nat} {z : List Int} {g : List Int → (Int × Int × List Int) ⊕ Nat} (F : Fits H g) (b : List Int) :
    (∃ n e t, shape H z g b = (n, e, t) ∧ (e = 10 ∨ e = 12 ∨ e = 80 ∨ e = 81)) ∨ ∃ n : Nat, shape H z g b = ((n : Int), 0, b.take n) ∧ 1 ≤ n ∧ n ≤ b.length := by
  unfold shape
  by_cases h1 : b.length < H
  · rw [if_pos h1]; exact .inl ⟨_, _, _, rfl, .inl rfl⟩
  · rw [if_neg h1]
    cases hg : g (b.take H) with
    | inl r => exact .inl ⟨r.1, r.2.1, r.2.2, rfl, .inr (F.bad _ _ hg)⟩
    | inr n =>
      by_cases h2 : b.length < n
      · refine .inl ⟨_, _, _, if_pos h2, .inl rfl⟩
      · exact .inr ⟨n, if_neg h2, by have := F.need _ _ hg; have := F.head; omega, by omega⟩

theorem wrap_up {i : Int} (h0 : 0 ≤ i) (h1 : i < 9223372036854775807) : wrap64 (i + 1) = i + 1 := by unfold wrap64; omega

theorem twin_go (l0 : List Int) (hl : l0.length ≤ 140737488355000) : ∀ (d i : Nat) (x3 : List Int) (k : Nat), i + d = l0.length + 4 → x3.length = l0.length + 4 → (∀ j, j < i → j < l0.length → x3[j]? = l0[j]?) → d < k → spindlelaw08_twin.l0 k l0 x3 (i : Int) = some l0 := by
  intro d
  induction d with
  | zero =>
    intro i x3 k h hx hj hk
    obtain ⟨k, rfl⟩ : ∃ m, k = m + 1 := ⟨k - 1, by omega⟩
    simp only [spindlelaw08_twin.l0]
    rw [if_neg (by omega), if_pos (by omega), if_pos (by omega)]
    congr 1
    apply List.ext_getElem?
    intro j
    by_cases hjl : j < l0.length
    · rw [List.getElem?_take_of_lt (by omega)]; exact hj j (by omega) hjl
    · rw [List.getElem?_eq_none (by rw [List.length_take]; omega), List.getElem?_eq_none (by omega)]
  | succ d ih =>
    intro i x3 k h hx hj hk
    obtain ⟨k, rfl⟩ : ∃ m, k = m + 1 := ⟨k - 1, by omega⟩
    simp only [spindlelaw08_twin.l0]
    rw [if_pos (by omega), if_pos (by omega)]
    simp only [Option.bind_some]
    rw [wrap_up (by omega) (by omega)]
    by_cases hi : i < l0.length
    · rw [if_pos (by omega)]
      refine ih (i + 1) _ k (by omega) (by simp [hx]) (fun j h1 h2 => ?_) (by omega)
      by_cases e : j = i
      · subst e
        simp [rd, hi, hx, show j < l0.length + 4 from by omega]
      · simp only [Int.toNat_natCast]
        rw [List.getElem?_set_ne (fun h => e h.symm), List.getElem?_set_ne (fun h => e h.symm)]
        exact hj j (by omega) h2
    · rw [if_neg (by omega)]
      refine ih (i + 1) _ k (by omega) (by simp [hx]) (fun j h1 h2 => ?_) (by omega)
      simp only [Int.toNat_natCast]
      rw [List.getElem?_set_ne (by omega)]
      exact hj j (by omega) h2

theorem twin_is (l0 : List Int) (hl : l0.length ≤ 140737488355000) (k : Nat) (hk : l0.length + 4 < k) : spindlelaw08_twin.f k l0 = some l0 := by
  unfold spindlelaw08_twin.f
  have e : wrap64 ((l0.length : Int) + 4) = ((l0.length + 4 : Nat) : Int) := by unfold wrap64; omega
  rw [e, if_pos (by omega), if_pos (by omega)]
  exact twin_go l0 hl (l0.length + 4) 0 _ k (by omega) (by rw [List.length_replicate]; omega) (fun j h => by omega) hk

theorem same_go (x : List Int) (hl : x.length ≤ 140737488355000) : ∀ (d i k : Nat), i + d = x.length → d < k → spindleref01_Same.l0 k x x (i : Int) = some true := by
  intro d
  induction d with
  | zero =>
    intro i k h hk
    obtain ⟨k, rfl⟩ : ∃ m, k = m + 1 := ⟨k - 1, by omega⟩
    simp only [spindleref01_Same.l0]
    rw [if_neg (by omega)]
  | succ d ih =>
    intro i k h hk
    obtain ⟨k, rfl⟩ : ∃ m, k = m + 1 := ⟨k - 1, by omega⟩
    simp only [spindleref01_Same.l0]
    rw [if_pos (by omega), if_pos (by omega), if_pos (by omega), if_pos True.intro, wrap_up (by omega) (by omega)]
    exact ih (i + 1) k (by omega) (by omega)

theorem same_is (x : List Int) (hl : x.length ≤ 140737488355000) (k : Nat) (hk : x.length < k) : spindlelaw08_same.f k x x = some true := by
  unfold spindlelaw08_same.f spindleref08_Same.f spindleref01_Same.f
  have e := same_go x hl x.length 0 k (by omega) hk
  rw [if_pos rfl]
  rw [show ((0 : Nat) : Int) = 0 from rfl] at e
  rw [e]
  rfl

theorem alive_go : ∀ k, spindlelaw08_alive.f (40 + k) = some true := by
  intro k
  induction k with
  | zero => decide +kernel
  | succ k ih => exact spindlelaw08_alive.mono (40 + k) _ ih

theorem alive_ge (k : Nat) (h : 40 ≤ k) : spindlelaw08_alive.f k = some true := by
  have := alive_go (k - 40)
  rwa [show 40 + (k - 40) = k from by omega] at this

theorem bytes_of {l0 : List Int} (h : ∀ x ∈ l0, (Lit.int .u8 x).wf = true) : Bytes l0 := by
  intro x hx
  have t : (decide ((0 : Int) ≤ x) && decide (x ≤ 255)) = true := h x hx
  simpa using t

end Go.Proofs.Ytilgfhiomcfmhaa.Pure
