/- In package wire's tables the number of a name is the number that it names, no two numbers of a table have one name, and the empty name names none, for every table and all numbers. -/
import Derived.Test.YtilgfhiomcfmhaaPTx2
import Derived.Test.YtilgfhiomcfmhaaPureTab
namespace Go.Proofs.Ytilgfhiomcfmhaa.Pure
open Go.RowKit Go.Proofs.Ytilgfhiomcfmhaa.PT Go.Proofs.YtilgfhiomcfmhaaW.PrintWords Go.Proofs.YtilgfhiomcfmhaaW.PrintLast

/-- What is asked of a table of names: no empty name, each name once. -/
def fine (L : List S118) : Bool := L.all (fun s => decide (s.f1.toList ≠ [])) && (L.all fun s => L.all fun t => !decide (s.f1.toList = t.f1.toList) || decide (s.f0 = t.f0))
theorem fine_tab (a : Int) : fine (tab a) = true := by
  by_cases h : 1 ≤ a ∧ a ≤ 7
  · have : a = 1 ∨ a = 2 ∨ a = 3 ∨ a = 4 ∨ a = 5 ∨ a = 6 ∨ a = 7 := by omega
    rcases this with rfl | rfl | rfl | rfl | rfl | rfl | rfl <;> decide +kernel
  · unfold tab
    rw [tab_out a h]
    rfl
theorem no_empty {a : Int} {s : S118} (h : s ∈ tab a) : s.f1.toList ≠ [] := by
  have := fine_tab a
  unfold fine at this
  rw [Bool.and_eq_true, List.all_eq_true] at this
  simpa using this.1 s h
theorem one_num {a : Int} {s t : S118} (h : s ∈ tab a) (h' : t ∈ tab a) (e : s.f1.toList = t.f1.toList) : s.f0 = t.f0 := by
  have := fine_tab a
  unfold fine at this
  rw [Bool.and_eq_true, List.all_eq_true, List.all_eq_true] at this
  have h2 := List.all_eq_true.1 (this.2 s h) t h'
  simpa [e] using h2

/-- A number's name: of the table, or empty. -/
theorem nam_cases (a n : Int) : (nam a n).toList = [] ∨ ∃ s ∈ tab a, s.f0 = n ∧ nam a n = s.f1 := by
  unfold nam
  cases h : (tab a).find? (fun s => decide (s.f0 = n)) with
  | none => exact .inl (by decide +kernel)
  | some s => exact .inr ⟨s, List.mem_of_find?_eq_some h, by have := List.find?_some h; simpa using this, rfl⟩
theorem num_empty (a : Int) (x : ByteArray) (hx : x.toList = []) : (num a x).2 = false := by
  unfold num
  rw [List.find?_eq_none.2]
  intro s hs
  have := no_empty hs
  simp [hx, this]
theorem num_of {a n : Int} {s : S118} (h : s ∈ tab a) (hn : s.f0 = n) (x : ByteArray) (hx : x = s.f1) : num a x = (n, true) := by
  unfold num
  cases hf : (tab a).find? (fun t => decide (t.f1.toList = x.toList)) with
  | none =>
    have := List.find?_eq_none.1 hf s h
    simp [hx] at this
  | some t =>
    have ht := List.mem_of_find?_eq_some hf
    have he := List.find?_some hf
    have : t.f0 = s.f0 := one_num ht h (by simpa [hx] using he)
    simp [this, hn]
theorem tab_range {a : Int} {s : S118} (h : s ∈ tab a) : 1 ≤ a ∧ a ≤ 7 := by
  by_cases hr : 1 ≤ a ∧ a ≤ 7
  · exact hr
  · unfold tab at h
    rw [tab_out a hr] at h
    cases h

theorem WireNamed : spindlelaw08_WireNamed.Pure := by
  intro a0 a1 a2 _ _ _
  refine ⟨2000, ?_⟩
  unfold spindlelaw08_WireNamed.f
  rw [wnam_is _ (by omega), wnam_is _ (by omega)]
  simp only [Option.bind_some]
  rw [wnum_is _ (by omega), wnum_is _ (by omega), alive_is]
  simp only [Option.bind_some]
  rw [num_empty a0 (⟨#[]⟩ : ByteArray) (by decide +kernel)]
  rw [if_neg (by simp)]
  rcases nam_cases a0 a1 with h | ⟨s, hs, hn, he⟩
  · have h2 := num_empty a0 (nam a0 a1) h
    rw [h2, h]
    simp
  · have hne : (nam a0 a1).toList ≠ [] := by rw [he]; exact no_empty hs
    have hnum := num_of hs hn (nam a0 a1) he
    have hr := tab_range hs
    rw [hnum]
    by_cases h12 : a1 = a2
    · subst h12
      simp [hne, hr.1, hr.2]
    · have hd : (nam a0 a1).toList ≠ (nam a0 a2).toList := by
        rcases nam_cases a0 a2 with h' | ⟨t, ht, hn', he'⟩
        · rw [h']; exact hne
        · intro e
          rw [he, he'] at e
          exact h12 (hn ▸ hn' ▸ one_num hs ht e)
      simp [hne, h12, hd, hr.1, hr.2]
end Go.Proofs.Ytilgfhiomcfmhaa.Pure
