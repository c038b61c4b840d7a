/- The laws' twin and kept: a copy with marks in its spare room, and that it is as it was; Same of equal rows. -/
import Derived.Test.YtilgfhiomcfmhaaOctc
namespace Go.Proofs.Ytilgfhiomcfmhaa.Hand
open Go.RowKit Go.Proofs.YtilgfhiomcfmhaaW.PrintWords Go.Proofs.YtilgfhiomcfmhaaW.PrintLast Go.Proofs.Ytilgfhiomcfmhaa.Octa
set_option linter.unusedVariables false

/-- What a twin's block holds: the bytes and four marks. -/
def marked (l : List Int) : List Int := l ++ [171, 171, 171, 171]
theorem marked_length (l : List Int) : (marked l).length = l.length + 4 := by simp [marked]

/-- The block g holds the bytes L. -/
structure Blk (w : World) (g : Nat) (L : List Int) : Prop where
  own : w.ownsRow 0 5 1 (.slice (some ⟨g, 0, none⟩) L.length L.length) L.length (nums .u8 L)
theorem Blk.cell {w : World} {g : Nat} {L : List Int} (h : Blk w g L) {j : Nat} {x : Int} (hj : L[j]? = some x) : w.cell? ⟨g, j, none⟩ = some (.int .u8 x) := by
  have := h.own.cells (g := g) rfl j (.int .u8 x) (by simp [nums, hj])
  rwa [add_plain] at this
theorem Blk.move {w w' : World} {g : Nat} {L : List Int} (h : Blk w g L) (hb : Below w.heap.size w w') : Blk w' g L :=
  ⟨own_move h.own fun k hk => hb.block k (own_lt h.own k hk)⟩
theorem Blk.lt {w : World} {g : Nat} {L : List Int} (h : Blk w g L) : g < w.heap.size := own_lt h.own g rfl
theorem Blk.frozen {w : World} {g : Nat} {L : List Int} (h : Blk w g L) (k : Nat) : w.frozen? ⟨g, k, none⟩ = false := by
  rcases h.own.2 with ⟨h0, _⟩ | ⟨g', cap', cur, hv, _, hh, _⟩
  · cases h0
  · injection hv with hv; injection hv with hv; injection hv with hv; subst hv; exact blk_frozen hh _
theorem Blk.set {w : World} {g : Nat} {L : List Int} (h : Blk w g L) (k : Nat) (x : Int) : Blk (w.setCell ⟨g, k, none⟩ (.int .u8 x)) g (L.set k x) := by
  have hs := h.own.stored k (.int .u8 x)
  have he : (nums .u8 L).set k (.int .u8 x) = nums .u8 (L.set k x) := by simp [nums, List.map_set]
  rw [he] at hs
  exact ⟨by rw [List.length_set]; exact hs.1⟩
theorem Blk.C {w : World} {g : Nat} {L : List Int} (h : Blk w g L) (hl : L.length ≤ 9223372036854775807) : Kd.C (Kd.int .u8) w (some ⟨g, 0, none⟩) L.length L := rd_C h.own rfl
theorem Blk.made (w : World) (n : Nat) (hn : n ≤ 140737488355328) : Blk (w.alloc (.cells (madeCells #[(Value.int .u8 0)] n) 5)) w.heap.size (List.replicate n 0) := by
  refine ⟨by simp [nums], .inr ⟨w.heap.size, n, madeCells #[(Value.int .u8 0)] n, by simp, Nat.zero_le _, heap_alloc_new w _, by simp, by unfold maxLen; omega, by simp [size_madeCells], ?_⟩⟩
  apply List.ext_getElem?
  intro j
  by_cases hj : j < n
  · simp [nums, madeCells, hj, Nat.mod_one]
  · rw [List.getElem?_eq_none (by simp [size_madeCells]; omega), List.getElem?_eq_none (by simp [nums]; omega)]

theorem below_put {w W : World} {g k : Nat} (h : Below w.heap.size w W) (hg : w.heap.size ≤ g) (v : Value) : Below w.heap.size w (W.setCell ⟨g, k, none⟩ v) :=
  ((Fr.of_below (S := (w.heap.size ≤ ·)) h).setCell (p := ⟨g, k, none⟩) hg v).below (Nat.le_refl _)
theorem marked_lt {l : List Int} {j : Nat} (h : j < l.length) : (marked l)[j]? = some (l.getD j 0) := by
  unfold marked
  rw [List.getElem?_append_left h, List.getD_eq_getElem?_getD, List.getElem?_eq_getElem h]
  rfl
theorem marked_ge {l : List Int} {j : Nat} (h : l.length ≤ j) (h2 : j < l.length + 4) : (marked l)[j]? = some 171 := by
  unfold marked
  rw [List.getElem?_append_right h]
  have : j - l.length = 0 ∨ j - l.length = 1 ∨ j - l.length = 2 ∨ j - l.length = 3 := by omega
  rcases this with e | e | e | e <;> rw [e] <;> rfl

set_option maxHeartbeats 2000000 in
set_option maxRecDepth 100000 in
theorem twin_calls (A : Option Addr) (c : Nat) (l : List Int) (w : World) (hC : Kd.C (Kd.int .u8) w A l.length l) (hl : l.length ≤ 140737488355000) :
    Calls Try.prog 19 #[.slice A l.length c] w fun e w' => ∃ g, e = .returned (.slice (some ⟨g, 0, none⟩) l.length (l.length + 4)) ∧ w.heap.size ≤ g ∧ Blk w' g (marked l) ∧ Below w.heap.size w w' := by
  have hw4 : IntKind.i64.wrap ((l.length : Int) + 4) = ((l.length + 4 : Nat) : Int) := by rw [IntWalk.i64_in _ (by omega)]; omega
  have hmk := print_make (P := Try.prog) 31 5 .u8 1 Try.underlying31 (by kernel_rfl) (by decide) (l.length + 4) (by omega)
  have e4 : ((l.length + 4 : Nat) : Int) = (l.length : Int) + 4 := by omega
  rw [e4] at hmk
  clear hw4
  have hcA : ∀ W, Below w.heap.size w W → ∀ j, j < l.length → ∃ ad, A = some ad ∧ W.cell? (ad.add j) = some (.int .u8 (l.getD j 0)) := fun W hW j hj => by
    obtain ⟨ad, e, hc⟩ := C_cells (Kd.C_below hC hW) (by omega)
    exact ⟨ad, e, hc j _ (by simp [nums, List.getD, List.getElem?_eq_getElem hj])⟩
  have HA := Lib.hid hcA
  clear hcA hC
  go_enter Try.func19, Try.ntmps19
  go_wp2
  go_loopw [4] (fun i wr => ∃ (k : Nat) (L : List Int), k ≤ l.length + 4 ∧ i = .int .i64 k ∧ L.length = l.length + 4 ∧ Blk wr w.heap.size L ∧ Below w.heap.size w wr ∧ ∀ j, j < k → L[j]? = (marked l)[j]?) (fun i _ => l.length + 4 - (intOf i).toNat)
  case atStart => exact ⟨0, List.replicate (l.length + 4) 0, Nat.zero_le _, rfl, by simp, Blk.made w (l.length + 4) (by omega), below_alloc (Below.refl _ _) _, fun j hj => by omega⟩
  case round =>
    obtain ⟨k, L, hk, rfl, hL, hLe, hBe, hJ⟩ := hrel
    have hfz : wr.frozen? ⟨w.heap.size, k, none⟩ = false := hLe.frozen k
    by_cases hlt : k < l.length
    · obtain ⟨x, hx⟩ : ∃ x, L[k]? = some x := ⟨_, List.getElem?_eq_getElem (by omega)⟩
      have hc1 : wr.cell? ⟨w.heap.size, k, none⟩ = some (.int .u8 x) := hLe.cell hx
      have hB1 := below_put (k := k) hBe (Nat.le_refl _) (.int .u8 171)
      obtain ⟨ad, rfl, hca⟩ := HA.out _ hB1 k hlt
      have hL1 := hLe.set k 171
      have hf1 : (wr.setCell ⟨w.heap.size, k, none⟩ (.int .u8 171)).frozen? ⟨w.heap.size, k, none⟩ = false := hL1.frozen k
      have hc2 : (wr.setCell ⟨w.heap.size, k, none⟩ (.int .u8 171)).cell? ⟨w.heap.size, k, none⟩ = some (.int .u8 171) := hL1.cell (by rw [List.getElem?_set_self (by omega)])
      have HL1 := Lib.hid hL1
      have HB1 := Lib.hid hB1
      have HJ := Lib.hid hJ
      have HL := Lib.hid hL
      obtain ⟨y, hy⟩ : ∃ y, y = l.getD k 0 := ⟨_, rfl⟩
      rw [← hy] at hca
      have HY := Lib.hid hy
      clear hL1 hB1 hJ hL hLe hBe hx hy
      go_wp2
      go_roundw
      case rel =>
        refine ⟨k + 1, (L.set k 171).set k y, by omega, by go_num, by simp [HL.out], HL1.out.set k y, below_put HB1.out (Nat.le_refl _) _, fun j hj => ?_⟩
        rw [List.set_set]
        by_cases hjk : j = k
        · subst hjk
          rw [List.getElem?_set_self (by rw [HL.out]; omega), marked_lt hlt, HY.out]
        · rw [List.getElem?_set_ne (by omega)]
          exact HJ.out j (by omega)
      case measure => simp [intOf]; omega
    · by_cases hlt4 : k < l.length + 4
      · obtain ⟨x, hx⟩ : ∃ x, L[k]? = some x := ⟨_, List.getElem?_eq_getElem (by omega)⟩
        have hc1 : wr.cell? ⟨w.heap.size, k, none⟩ = some (.int .u8 x) := hLe.cell hx
        have HL1 := Lib.hid (hLe.set k 171)
        have HB1 := Lib.hid (below_put (k := k) hBe (Nat.le_refl _) (.int .u8 171))
        have HJ := Lib.hid hJ
        have HL := Lib.hid hL
        clear hJ hL hLe hBe hx
        go_wp2
        go_roundw
        case rel =>
          refine ⟨k + 1, L.set k 171, by omega, by go_num, by simp [HL.out], HL1.out, HB1.out, fun j hj => ?_⟩
          by_cases hjk : j = k
          · subst hjk
            rw [List.getElem?_set_self (by rw [HL.out]; omega), marked_ge (by omega) hlt4]
          · rw [List.getElem?_set_ne (by omega)]
            exact HJ.out j (by omega)
        case measure => simp [intOf]; omega
      · obtain rfl : k = l.length + 4 := by omega
        have he : L = marked l := by
          apply List.ext_getElem?
          intro j
          by_cases hj : j < l.length + 4
          · exact hJ j hj
          · rw [List.getElem?_eq_none (by omega), List.getElem?_eq_none (by rw [marked_length]; omega)]
        subst he
        have HLe := Lib.hid hLe
        have HBe := Lib.hid hBe
        clear hLe hBe hJ hL hlt hlt4
        go_wp2
        go_ret
        exact ⟨w.heap.size, rfl, Nat.le_refl _, HLe.out, HBe.out⟩

set_option maxHeartbeats 2000000 in
set_option maxRecDepth 100000 in
theorem kept_calls (g : Nat) (A : Option Addr) (c : Nat) (l : List Int) (w : World) (hB : Blk w g (marked l)) (hC : Kd.C (Kd.int .u8) w A l.length l) (hl : l.length ≤ 140737488355000) :
    Calls Try.prog 29 #[.slice (some ⟨g, 0, none⟩) l.length (l.length + 4), .slice A l.length c] w fun e w' => e = .returned (.bool true) ∧ ∃ n, w' = w.drewN n := by
  have hcA : ∀ j, j < l.length → ∃ ad, A = some ad ∧ w.cell? (ad.add j) = some (.int .u8 (l.getD j 0)) := fun j hj => by
    obtain ⟨ad, e, hc⟩ := C_cells hC (by omega)
    exact ⟨ad, e, hc j _ (by simp [nums, List.getD, List.getElem?_eq_getElem hj])⟩
  have HA := Lib.hid hcA
  have HB := Lib.hid hB
  have hi : IntKind.i64.wrap ((l.length : Int) + 4) = (l.length : Int) + 4 := IntWalk.i64_in _ (by omega)
  have hi2 : ((l.length : Int) + 4).toNat = l.length + 4 := by omega
  clear hcA hC hB
  go_enter Try.func29, Try.ntmps29
  go_wp2
  go_loopw [6] (fun i wr => ∃ k n : Nat, k ≤ l.length + 4 ∧ i = .int .i64 k ∧ wr = w.drewN n) (fun i _ => l.length + 4 - (intOf i).toNat)
  case atStart => exact ⟨0, 0, Nat.zero_le _, rfl, rfl⟩
  case round =>
    obtain ⟨k, n, hk, rfl, rfl⟩ := hrel
    by_cases hlt : k < l.length
    · obtain ⟨ad, rfl, ca⟩ := HA.out k hlt
      have cb : w.cell? ⟨g, k, none⟩ = some (.int .u8 (l.getD k 0)) := HB.out.cell (marked_lt hlt)
      obtain ⟨x, hx⟩ : ∃ x, x = l.getD k 0 := ⟨_, rfl⟩
      rw [← hx] at ca cb
      have hne : (x != x) = false := by simp
      have d1 : decide (l.length ≤ k) = false := decide_eq_false (by omega)
      clear hx
      go_wp2
      go_quiet (fail)
      go_wp2
      go_roundw
      case rel => exact ⟨k + 1, _, by omega, by go_num, rfl⟩
      case measure => simp [intOf]; omega
    · by_cases hlt4 : k < l.length + 4
      · have cb : w.cell? ⟨g, k, none⟩ = some (.int .u8 171) := HB.out.cell (marked_ge (by omega) hlt4)
        have d1 : decide (l.length ≤ k) = true := decide_eq_true (by omega)
        have d2 : decide (k < l.length) = false := decide_eq_false (by omega)
        go_wp2
        go_quiet (fail)
        go_wp2
        go_roundw
        case rel => exact ⟨k + 1, _, by omega, by go_num, rfl⟩
        case measure => simp [intOf]; omega
      · obtain rfl : k = l.length + 4 := by omega
        go_wp2
        go_ret
        exact ⟨rfl, _, rfl⟩
end Go.Proofs.Ytilgfhiomcfmhaa.Hand
