/- How many bytes are wanted, of every beginning of a row: for all eleven decoders, every row of bytes, every limit and every cut. -/
import Derived.Test.YtilgfhiomcfmhaaPWx4
import Derived.Test.YtilgfhiomcfmhaaPureTwin
namespace Go.Proofs.Ytilgfhiomcfmhaa.Pure
open Go.RowKit Go.Proofs.Ytilgfhiomcfmhaa.Hand Go.Proofs.Ytilgfhiomcfmhaa.PW Go.Proofs.Ytilgfhiomcfmhaa.Octa Go.Proofs.YtilgfhiomcfmhaaW.PrintWords Go.Proofs.YtilgfhiomcfmhaaW.PrintLast

/-- The shape of a beginning, told by the row's own head. -/
theorem shape_short {H : Nat} {z : List Int} {g : List Int → (Int × Int × List Int) ⊕ Nat} {b : List Int} {c : Nat} (hc : c ≤ b.length) (h : c < H) : shape H z g (b.take c) = ((H : Int), 10, z) := by
  unfold shape
  rw [if_pos (by rw [List.length_take]; omega)]
theorem shape_bad {H : Nat} {z : List Int} {g : List Int → (Int × Int × List Int) ⊕ Nat} {b : List Int} {c : Nat} {r : Int × Int × List Int} (hc : c ≤ b.length) (h : H ≤ c) (hg : g (b.take H) = .inl r) : shape H z g (b.take c) = r := by
  unfold shape
  rw [if_neg (by rw [List.length_take]; omega), List.take_take, Nat.min_eq_left h, hg]
theorem shape_more {H : Nat} {z : List Int} {g : List Int → (Int × Int × List Int) ⊕ Nat} {b : List Int} {c n : Nat} (hc : c ≤ b.length) (h : H ≤ c) (hg : g (b.take H) = .inr n) (hn : c < n) : shape H z g (b.take c) = ((n : Int), 10, z) := by
  unfold shape
  rw [if_neg (by rw [List.length_take]; omega), List.take_take, Nat.min_eq_left h, hg]
  exact if_pos (by rw [List.length_take]; omega)
theorem shape_full {H : Nat} {z : List Int} {g : List Int → (Int × Int × List Int) ⊕ Nat} {b : List Int} {c n : Nat} (hc : c ≤ b.length) (h : H ≤ c) (hg : g (b.take H) = .inr n) (hn : n ≤ c) : shape H z g (b.take c) = ((n : Int), 0, b.take n) := by
  unfold shape
  rw [if_neg (by rw [List.length_take]; omega), List.take_take, Nat.min_eq_left h, hg]
  refine (if_neg (by rw [List.length_take]; omega)).trans ?_
  rw [List.take_take, Nat.min_eq_left hn]

theorem pieces_go (b : List Int) (most : Int) (c : Nat) (hc : c ≤ b.length) (hb : Bytes b) (hl : b.length ≤ 140737488355000) (hm : 0 ≤ most ∧ most ≤ 4294967295) : ∀ (d : Nat) (i : Int) (k : Nat), 0 ≤ i → i + d = 11 → 2 * d + b.length + 50 < k → spindlelaw08_WirePieces.l0 k b most c i = some true := by
  intro d
  induction d with
  | zero =>
    intro i k h0 h hk
    obtain ⟨k, rfl⟩ : ∃ m, k = m + 1 := ⟨k - 1, by omega⟩
    simp only [spindlelaw08_WirePieces.l0]
    rw [if_neg (by omega), alive_ge k (by omega)]
    rfl
  | succ d ih =>
    intro i k h0 h hk
    obtain ⟨k, rfl⟩ : ∃ m, k = m + 2 := ⟨k - 2, by omega⟩
    obtain ⟨H, z, g, F, ht0⟩ := told_all i h0 (by omega) most hm
    have hi : wrap64 (i + 1) = i + 1 := wrap_up h0 (by omega)
    have hn := ih (i + 1) k (by omega) (by omega) (by omega)
    have hH := F.head
    have cut : ∀ m : Nat, m ≤ b.length → ∀ j, b.length + 10 < j → spindlelaw08_twin.f j (b.take m) = some (b.take m) := fun m h j hj => twin_is _ (by rw [List.length_take]; omega) j (by rw [List.length_take]; omega)
    have tell : ∀ (m : Nat) (j : Nat), 1 ≤ j → spindlelaw08_told.f j i (b.take m) most = some (shape H z g (b.take m)) := fun m j hj => by
      have := ht0 (b.take m) (hb.take m) (by rw [List.length_take]; omega) (j - 1)
      rwa [show j - 1 + 1 = j from by omega] at this
    have whole : shape H z g b = shape H z g (b.take b.length) := by rw [List.take_length]
    -- behind a part that wants: it wants more than it has, and the beginning that it wants does not want so many again
    have next : ∀ (N E : Int) (T : List Int), (E = 10 → ∃ m : Nat, N = m ∧ c < m ∧ (m ≤ b.length → (∀ x, shape H z g (b.take m) = x → x.2.1 = 10 → ¬ x.1 ≤ m))) → spindlelaw08_WirePieces.j2 (k + 1) b most c i N E T = some true := by
      intro N E T hE
      simp only [spindlelaw08_WirePieces.j2]
      by_cases e : E = 10
      · obtain ⟨m, rfl, h1, h2⟩ := hE e
        rw [if_pos e, if_neg (by omega)]
        by_cases h3 : m ≤ b.length
        · rw [if_pos (by omega), if_pos (by omega), Int.toNat_natCast, cut m h3 k (by omega)]
          simp only [Option.bind_some]
          rw [tell m k (by omega)]
          simp only [Option.bind_some]
          have h4 := h2 h3 _ rfl
          by_cases h5 : (shape H z g (b.take m)).2.1 = 10
          · rw [if_pos h5, if_neg (h4 h5), hi, hn]
          · rw [if_neg h5, hi, hn]
        · rw [if_neg (by omega), hi, hn]
      · rw [if_neg e, hi, hn]
    have headnext : c < H → spindlelaw08_WirePieces.j2 (k + 1) b most c i (H : Int) 10 z = some true := fun hcH => by
      refine next _ _ _ fun _ => ⟨H, rfl, hcH, fun h6 x hx h7 => ?_⟩
      cases hg : g (b.take H) with
      | inl r =>
        rw [shape_bad h6 (Nat.le_refl _) hg] at hx
        subst hx
        have := F.bad _ _ hg
        omega
      | inr n =>
        have := F.need _ _ hg
        by_cases h8 : H < n
        · rw [shape_more h6 (Nat.le_refl _) hg h8] at hx
          subst hx
          dsimp only
          omega
        · rw [shape_full h6 (Nat.le_refl _) hg (by omega)] at hx
          subst hx
          simp at h7
    simp only [spindlelaw08_WirePieces.l0]
    rw [if_pos (by omega), twin_is b hl (k + 1) (by omega)]
    simp only [Option.bind_some]
    have hw := tell b.length (k + 1) (by omega)
    rw [← whole, List.take_length] at hw
    rw [hw]
    simp only [Option.bind_some]
    rw [if_pos (by omega), if_pos (by omega), Int.toNat_natCast, cut c hc (k + 1) (by omega)]
    simp only [Option.bind_some]
    rw [tell c (k + 1) (by omega)]
    simp only [Option.bind_some]
    by_cases h1 : b.length < H
    · have e1 : shape H z g b = ((H : Int), 10, z) := by rw [whole]; exact shape_short (Nat.le_refl _) h1
      have e2 : shape H z g (b.take c) = ((H : Int), 10, z) := shape_short hc (by omega)
      rw [e1, e2]
      dsimp only
      rw [if_pos rfl, if_pos rfl, if_neg (by omega), if_neg (by omega)]
      exact headnext (by omega)
    · cases hg : g (b.take H) with
      | inl r =>
        have e1 : shape H z g b = r := by rw [whole]; exact shape_bad (Nat.le_refl _) (by omega) hg
        have hr := F.bad _ _ hg
        rw [e1, if_neg (by omega), if_neg (by omega)]
        by_cases h2 : c < H
        · rw [shape_short hc h2]
          dsimp only
          rw [if_pos rfl]
          exact headnext h2
        · rw [shape_bad hc (by omega) hg, if_neg (by omega), if_pos rfl, if_pos rfl]
          exact next _ _ _ fun e => by omega
      | inr n =>
        have hHn := F.need _ _ hg
        by_cases h3 : b.length < n
        · have e1 : shape H z g b = ((n : Int), 10, z) := by rw [whole]; exact shape_more (Nat.le_refl _) (by omega) hg h3
          rw [e1]
          dsimp only
          rw [if_pos rfl]
          by_cases h2 : c < H
          · rw [shape_short hc h2]
            dsimp only
            rw [if_pos rfl, if_neg (by omega), if_neg (by omega)]
            exact headnext h2
          · rw [shape_more hc (by omega) hg (by omega)]
            dsimp only
            rw [if_pos rfl, if_neg (by omega), if_neg (by omega)]
            exact next _ _ _ fun _ => ⟨n, rfl, by omega, fun h6 => by omega⟩
        · have e1 : shape H z g b = ((n : Int), 0, b.take n) := by rw [whole]; exact shape_full (Nat.le_refl _) (by omega) hg (by omega)
          rw [e1]
          dsimp only
          rw [if_neg (by decide), if_pos rfl]
          by_cases h2 : c < H
          · rw [shape_short hc h2, if_neg (by omega), if_pos (by omega)]
            dsimp only
            rw [if_pos rfl, if_neg (by omega)]
            exact headnext h2
          · by_cases h4 : c < n
            · rw [shape_more hc (by omega) hg h4, if_neg (by omega), if_pos (by omega)]
              dsimp only
              rw [if_pos rfl, if_neg (by omega)]
              refine next _ _ _ fun _ => ⟨n, rfl, h4, fun h6 x hx h7 => ?_⟩
              rw [shape_full h6 hHn hg (Nat.le_refl _)] at hx
              subst hx
              simp at h7
            · rw [shape_full hc (by omega) hg (by omega), if_pos (by omega)]
              dsimp only
              rw [if_pos rfl, if_pos rfl, same_is (b.take n) (by rw [List.length_take]; omega) (k + 1) (by rw [List.length_take]; omega)]
              simp only [Option.bind_some]
              rw [if_pos trivial, if_neg (by omega)]
              exact next _ _ _ fun e => by omega

theorem WirePieces : spindlelaw08_WirePieces.Pure := by
  intro l0 a1 a2 _ hl hw hm _
  have hm' : 0 ≤ a1 ∧ a1 ≤ 4294967295 := by
    have t : (decide ((0 : Int) ≤ a1) && decide (a1 ≤ 4294967295)) = true := hm
    simpa using t
  refine ⟨2 * 11 + l0.length + 53, ?_⟩
  unfold spindlelaw08_WirePieces.f
  by_cases h1 : a2 < 0
  · rw [if_pos h1]
    simp only [spindlelaw08_WirePieces.j0]
    rw [if_pos trivial, alive_ge _ (by omega)]
    rfl
  · rw [if_neg h1]
    by_cases h2 : a2 > (l0.length : Int)
    · rw [decide_eq_true h2]
      simp only [spindlelaw08_WirePieces.j0]
      rw [if_pos trivial, alive_ge _ (by omega)]
      rfl
    · rw [decide_eq_false h2]
      simp only [spindlelaw08_WirePieces.j0]
      rw [if_neg (by decide)]
      have := pieces_go l0 a1 a2.toNat (by omega) (bytes_of hw) (by omega) hm' 11 0 (2 * 11 + l0.length + 52) (by omega) (by omega) (by omega)
      rwa [Int.toNat_of_nonneg (by omega)] at this
end Go.Proofs.Ytilgfhiomcfmhaa.Pure
