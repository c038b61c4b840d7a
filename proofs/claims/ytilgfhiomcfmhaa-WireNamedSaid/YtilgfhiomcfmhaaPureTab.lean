/- The tables of names and numbers, as plain lists: what the program's look-ups and the document's find. -/
import Derived.Test.YtilgfhiomcfmhaaPTx1
namespace Go.Proofs.Ytilgfhiomcfmhaa.Pure
open Go.RowKit Go.Proofs.Ytilgfhiomcfmhaa.Hand Go.Proofs.Ytilgfhiomcfmhaa.PT Go.Proofs.YtilgfhiomcfmhaaW.PrintWords Go.Proofs.YtilgfhiomcfmhaaW.PrintLast

theorem wrap_step {i n : Nat} (h : i < n) (hn : n ≤ 1000) : wrap64 ((i : Int) + 1) = ((i + 1 : Nat) : Int) := by
  unfold wrap64
  omega

theorem wNum (x1 : ByteArray) (L : List S118) (hL : L.length ≤ 1000) : ∀ (d i k : Nat), i + d = L.length → d < k →
    wire_Number.l0 k x1 L (L.length : Int) (i : Int) = some (match (L.drop i).find? (fun s => decide (s.f1.toList = x1.toList)) with | some s => (s.f0, true) | none => (0, false)) := by
  intro d
  induction d with
  | zero =>
    intro i k h hk
    obtain ⟨k, rfl⟩ : ∃ m, k = m + 1 := ⟨k - 1, by omega⟩
    simp only [wire_Number.l0]
    rw [if_neg (by omega), List.drop_of_length_le (by omega)]
    rfl
  | succ d ih =>
    intro i k h hk
    obtain ⟨k, rfl⟩ : ∃ m, k = m + 1 := ⟨k - 1, by omega⟩
    have hi : i < L.length := by omega
    simp only [wire_Number.l0]
    rw [if_pos (by omega), if_pos (by omega), if_pos (by omega), List.drop_eq_getElem_cons hi, List.find?_cons]
    have hr : rd_T118 L (i : Int) = L[i] := by simp [rd_T118, List.getD, hi]
    rw [hr]
    by_cases hc : L[i].f1.toList = x1.toList
    · rw [if_pos hc]; simp [hc]
    · rw [if_neg hc, wrap_step hi hL, ih (i + 1) k (by omega) (by omega)]; simp [hc]

theorem rNum (x0 : Int) (x1 : ByteArray) (L : List S122) (hL : L.length ≤ 1000) : ∀ (d i k : Nat), i + d = L.length → d < k →
    spindleref08_Number.l0 k x0 x1 L (i : Int) = some (match (L.drop i).find? (fun s => decide (s.f0 = x0) && decide (s.f2.toList = x1.toList)) with | some s => (s.f1, true) | none => (0, false)) := by
  intro d
  induction d with
  | zero =>
    intro i k h hk
    obtain ⟨k, rfl⟩ : ∃ m, k = m + 1 := ⟨k - 1, by omega⟩
    simp only [spindleref08_Number.l0]
    rw [if_neg (by omega), List.drop_of_length_le (by omega)]
    rfl
  | succ d ih =>
    intro i k h hk
    obtain ⟨k, rfl⟩ : ∃ m, k = m + 1 := ⟨k - 1, by omega⟩
    have hi : i < L.length := by omega
    simp only [spindleref08_Number.l0]
    rw [if_pos (by omega), if_pos (by omega), List.drop_eq_getElem_cons hi, List.find?_cons]
    have hr : rd_T122 L (i : Int) = L[i] := by simp [rd_T122, List.getD, hi]
    rw [hr]
    by_cases h0 : L[i].f0 = x0
    · rw [if_pos h0]
      by_cases hc : L[i].f2.toList = x1.toList
      · rw [if_pos hc]; simp [hc, h0]
      · rw [if_neg hc, wrap_step hi hL, ih (i + 1) k (by omega) (by omega)]; simp [hc]
    · rw [if_neg h0, wrap_step hi hL, ih (i + 1) k (by omega) (by omega)]; simp [h0]

theorem wNam (x1 : Int) (L : List S118) (hL : L.length ≤ 1000) : ∀ (d i k : Nat), i + d = L.length → d < k →
    wire_Name.l0 k x1 L (L.length : Int) (i : Int) = some (match (L.drop i).find? (fun s => decide (s.f0 = x1)) with | some s => s.f1 | none => (⟨#[]⟩ : ByteArray)) := by
  intro d
  induction d with
  | zero =>
    intro i k h hk
    obtain ⟨k, rfl⟩ : ∃ m, k = m + 1 := ⟨k - 1, by omega⟩
    simp only [wire_Name.l0]
    rw [if_neg (by omega), List.drop_of_length_le (by omega)]
    rfl
  | succ d ih =>
    intro i k h hk
    obtain ⟨k, rfl⟩ : ∃ m, k = m + 1 := ⟨k - 1, by omega⟩
    have hi : i < L.length := by omega
    simp only [wire_Name.l0]
    rw [if_pos (by omega), if_pos (by omega), if_pos (by omega), List.drop_eq_getElem_cons hi, List.find?_cons]
    have hr : rd_T118 L (i : Int) = L[i] := by simp [rd_T118, List.getD, hi]
    rw [hr]
    by_cases hc : L[i].f0 = x1
    · rw [if_pos hc]; simp [hc]
    · rw [if_neg hc, wrap_step hi hL, ih (i + 1) k (by omega) (by omega)]; simp [hc]

theorem rNam (x0 x1 : Int) (L : List S122) (hL : L.length ≤ 1000) : ∀ (d i k : Nat), i + d = L.length → d < k →
    spindleref08_Name.l0 k x0 x1 L (i : Int) = some (match (L.drop i).find? (fun s => decide (s.f0 = x0) && decide (s.f1 = x1)) with | some s => s.f2 | none => (⟨#[]⟩ : ByteArray)) := by
  intro d
  induction d with
  | zero =>
    intro i k h hk
    obtain ⟨k, rfl⟩ : ∃ m, k = m + 1 := ⟨k - 1, by omega⟩
    simp only [spindleref08_Name.l0]
    rw [if_neg (by omega), List.drop_of_length_le (by omega)]
    rfl
  | succ d ih =>
    intro i k h hk
    obtain ⟨k, rfl⟩ : ∃ m, k = m + 1 := ⟨k - 1, by omega⟩
    have hi : i < L.length := by omega
    simp only [spindleref08_Name.l0]
    rw [if_pos (by omega), if_pos (by omega), List.drop_eq_getElem_cons hi, List.find?_cons]
    have hr : rd_T122 L (i : Int) = L[i] := by simp [rd_T122, List.getD, hi]
    rw [hr]
    by_cases h0 : L[i].f0 = x0
    · rw [if_pos h0]
      by_cases hc : L[i].f1 = x1
      · rw [if_pos hc]; simp [hc, h0]
      · rw [if_neg hc, wrap_step hi hL, ih (i + 1) k (by omega) (by omega)]; simp [hc]
    · rw [if_neg h0, wrap_step hi hL, ih (i + 1) k (by omega) (by omega)]; simp [h0]

/-- The document's table, and what it holds of one number. -/
def all : List S122 := (spindleref08_Names.f).getD []
def tab (a : Int) : List S118 := (wire_table.f a).getD []
theorem all_is : spindleref08_Names.f = some all := rfl
theorem tab_out (a : Int) (h : ¬ (1 ≤ a ∧ a ≤ 7)) : wire_table.f a = some [] := by
  unfold wire_table.f
  rw [if_neg (by omega), if_neg (by omega), if_neg (by omega), if_neg (by omega), if_neg (by omega), if_neg (by omega), if_neg (by omega)]
theorem all_in : ∀ s ∈ all, 1 ≤ s.f0 ∧ s.f0 ≤ 7 := by
  have h : all.all (fun s => decide (1 ≤ s.f0) && decide (s.f0 ≤ 7)) = true := by decide +kernel
  intro s hs
  have := List.all_eq_true.1 h s hs
  simpa using this
theorem tab_is (a : Int) : wire_table.f a = some (tab a) ∧ (tab a).length ≤ 1000 := by
  by_cases h : 1 ≤ a ∧ a ≤ 7
  · have : a = 1 ∨ a = 2 ∨ a = 3 ∨ a = 4 ∨ a = 5 ∨ a = 6 ∨ a = 7 := by omega
    rcases this with rfl | rfl | rfl | rfl | rfl | rfl | rfl <;> exact ⟨rfl, by decide⟩
  · unfold tab
    rw [tab_out a h]
    exact ⟨rfl, by decide⟩
theorem filter_is (a : Int) : (all.filter (fun s => decide (s.f0 = a))).map (fun s => (⟨s.f1, s.f2⟩ : S118)) = tab a := by
  by_cases h : 1 ≤ a ∧ a ≤ 7
  · have : a = 1 ∨ a = 2 ∨ a = 3 ∨ a = 4 ∨ a = 5 ∨ a = 6 ∨ a = 7 := by omega
    rcases this with rfl | rfl | rfl | rfl | rfl | rfl | rfl <;> rfl
  · unfold tab
    rw [tab_out a h, List.filter_eq_nil_iff.2]
    · rfl
    · intro s hs
      have := all_in s hs
      simp
      omega
theorem find_is (a : Int) (p : S118 → Bool) : (all.find? (fun s => decide (s.f0 = a) && p ⟨s.f1, s.f2⟩)).map (fun s => (⟨s.f1, s.f2⟩ : S118)) = (tab a).find? p := by
  rw [← filter_is, List.find?_map, List.find?_filter]
  congr 2
  funext s
  simp [Bool.decide_and]

/-- A table's number of a name, and name of a number. -/
def num (a : Int) (x : ByteArray) : Int × Bool := match (tab a).find? (fun s => decide (s.f1.toList = x.toList)) with | some s => (s.f0, true) | none => (0, false)
def nam (a n : Int) : ByteArray := match (tab a).find? (fun s => decide (s.f0 = n)) with | some s => s.f1 | none => (⟨#[]⟩ : ByteArray)
theorem wnum_is (k : Nat) (hk : 1000 < k) (a : Int) (x : ByteArray) : wire_Number.f k a x = some (num a x) := by
  unfold wire_Number.f
  rw [(tab_is a).1]
  simp only [Option.bind_some]
  have := wNum x (tab a) (tab_is a).2 (tab a).length 0 k (by omega) (by have := (tab_is a).2; omega)
  rw [List.drop_zero] at this
  exact this
theorem wnam_is (k : Nat) (hk : 1000 < k) (a n : Int) : wire_Name.f k a n = some (nam a n) := by
  unfold wire_Name.f
  rw [(tab_is a).1]
  simp only [Option.bind_some]
  have := wNam n (tab a) (tab_is a).2 (tab a).length 0 k (by omega) (by have := (tab_is a).2; omega)
  rw [List.drop_zero] at this
  exact this
theorem all_len : all.length ≤ 1000 := by decide
theorem rnum_is (k : Nat) (hk : 1000 < k) (a : Int) (x : ByteArray) : spindleref08_Number.f k a x = some (num a x) := by
  unfold spindleref08_Number.f
  rw [all_is]
  simp only [Option.bind_some]
  have := rNum a x all all_len all.length 0 k (by omega) (by have := all_len; omega)
  rw [List.drop_zero] at this
  refine this.trans ?_
  have hf := find_is a (fun s => decide (s.f1.toList = x.toList))
  unfold num
  rw [← hf]
  cases all.find? (fun s => decide (s.f0 = a) && decide (s.f2.toList = x.toList)) <;> rfl
theorem rnam_is (k : Nat) (hk : 1000 < k) (a n : Int) : spindleref08_Name.f k a n = some (nam a n) := by
  unfold spindleref08_Name.f
  rw [all_is]
  simp only [Option.bind_some]
  have := rNam a n all all_len all.length 0 k (by omega) (by have := all_len; omega)
  rw [List.drop_zero] at this
  refine this.trans ?_
  have hf := find_is a (fun s => decide (s.f0 = n))
  unfold nam
  rw [← hf]
  cases all.find? (fun s => decide (s.f0 = a) && decide (s.f1 = n)) <;> rfl
theorem alive_is : spindlelaw08_alive.f 2000 = some true := by
  unfold spindlelaw08_alive.f
  rw [wnam_is 2000 (by omega)]
  decide +kernel
end Go.Proofs.Ytilgfhiomcfmhaa.Pure
