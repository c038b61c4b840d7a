/- Numbers and their bytes: what be lays down vl reads, and what vl reads be lays down, of rows of at most eight bytes. -/
import Derived.Test.YtilgfhiomcfmhaaOctc
namespace Go.Proofs.Ytilgfhiomcfmhaa.Octa
open Go.RowKit Go.Proofs.YtilgfhiomcfmhaaW.PrintWords Go.Proofs.YtilgfhiomcfmhaaW.PrintLast

/-- Every number of the row is a byte. -/
def Bytes (bs : List Int) : Prop := ∀ c ∈ bs, 0 ≤ c ∧ c ≤ 255
theorem Bytes.take {bs : List Int} (h : Bytes bs) (n : Nat) : Bytes (bs.take n) := fun c hc => h c (List.mem_of_mem_take hc)
theorem Bytes.drop {bs : List Int} (h : Bytes bs) (n : Nat) : Bytes (bs.drop n) := fun c hc => h c (List.mem_of_mem_drop hc)

theorem vstep_eq (v c : Int) (h0 : 0 ≤ v) (h1 : v < 72057594037927936) (h2 : 0 ≤ c) (h3 : c ≤ 255) : vstep v c = v * 256 + c := by
  unfold vstep
  have e1 : IntKind.u64.wrap (v * 256) = v * 256 := by rw [IntKind.wrap_u64]; omega
  have e2 : IntKind.u64.wrap c = c := by rw [IntKind.wrap_u64]; omega
  rw [e1, e2, u64_or _ _ (by omega) (by omega) (by omega) (by omega)]
  have e3 : (v * 256).toNat = 2 ^ 8 * v.toNat := by omega
  have := Nat.two_pow_add_eq_or_of_lt (i := 8) (b := c.toNat) (by omega) v.toNat
  rw [e3, ← this]
  omega

theorem pow_low (n : Nat) (h : n ≤ 7) : (256 : Int) ^ n ≤ 72057594037927936 := (by decide : ∀ n < 8, (256 : Int) ^ n ≤ 72057594037927936) n (by omega)

theorem vl_lt : ∀ (n : Nat) (bs : List Int), bs.length = n → n ≤ 8 → Bytes bs → vl bs < 256 ^ n := by
  intro n
  induction n with
  | zero => intro bs hl _ _; rw [List.eq_nil_of_length_eq_zero hl]; simp [vl]
  | succ n ih =>
    intro bs hl hn hb
    rcases List.eq_nil_or_concat bs with rfl | ⟨L, c, rfl⟩
    · simp at hl
    · rw [List.concat_eq_append] at hl hb ⊢
      have hL : L.length = n := by simp at hl; omega
      have h := ih L hL (by omega) (fun x hx => hb x (by simp [hx]))
      have hc := hb c (by simp)
      have hp := pow_low n (by omega)
      have h0 := (vl_range L).1
      rw [vl_snoc, vstep_eq _ _ h0 (by omega) hc.1 hc.2, Int.pow_succ]
      omega

theorem vl_snoc_eq (L : List Int) (c : Int) (hl : L.length ≤ 7) (hb : Bytes (L ++ [c])) : vl (L ++ [c]) = vl L * 256 + c := by
  have hc := hb c (by simp)
  have h := vl_lt L.length L rfl (by omega) (fun x hx => hb x (by simp [hx]))
  have hp := pow_low L.length (by omega)
  rw [vl_snoc, vstep_eq _ _ (vl_range L).1 (by omega) hc.1 hc.2]

theorem be_succ (v : Int) (n : Nat) : be v (n + 1) = be (v / 256) n ++ [v % 256] := by
  unfold be
  rw [List.range_succ, List.map_append]
  congr 1
  · apply List.map_congr_left
    intro j hj
    have hj := List.mem_range.mp hj
    have e : n + 1 - 1 - j = (n - 1 - j) + 1 := by omega
    rw [e, Int.pow_succ, Int.mul_comm, Int.ediv_ediv_of_nonneg (by decide : (0 : Int) ≤ 256)]
  · simp

theorem be_vl : ∀ (n : Nat) (bs : List Int), bs.length = n → n ≤ 8 → Bytes bs → be (vl bs) n = bs := by
  intro n
  induction n with
  | zero => intro bs hl _ _; rw [List.eq_nil_of_length_eq_zero hl]; rfl
  | succ n ih =>
    intro bs hl hn hb
    rcases List.eq_nil_or_concat bs with rfl | ⟨L, c, rfl⟩
    · simp at hl
    · rw [List.concat_eq_append] at hl hb ⊢
      have hL : L.length = n := by simp at hl; omega
      have hc := hb c (by simp)
      have h0 := (vl_range L).1
      rw [vl_snoc_eq L c (by omega) hb, be_succ]
      have e1 : (vl L * 256 + c) / 256 = vl L := by omega
      have e2 : (vl L * 256 + c) % 256 = c := by omega
      rw [e1, e2, ih L hL (by omega) (fun x hx => hb x (by simp [hx]))]

theorem be_bytes (v : Int) (n : Nat) : Bytes (be v n) := by
  intro c hc
  unfold be at hc
  obtain ⟨j, _, rfl⟩ := List.mem_map.mp hc
  omega

theorem vl_be : ∀ (n : Nat) (v : Int), n ≤ 8 → 0 ≤ v → v < 256 ^ n → vl (be v n) = v := by
  intro n
  induction n with
  | zero => intro v _ h0 h1; simp at h1; have : v = 0 := by omega
            subst this; rfl
  | succ n ih =>
    intro v hn h0 h1
    have hb := be_bytes v (n + 1)
    rw [be_succ] at hb ⊢
    rw [vl_snoc_eq _ _ (by rw [be_length]; omega) hb, ih (v / 256) (by omega) (by omega) (by rw [Int.pow_succ] at h1; omega)]
    omega

/-- The number that stands in a row at a place, laid down, is the row's bytes there. -/
theorem be_vat (l : List Int) (a n : Nat) (hb : Bytes l) (hn : n ≤ 8) (h : a + n ≤ l.length) : be (vat l a n) n = (l.drop a).take n :=
  be_vl n _ (by rw [List.length_take, List.length_drop]; omega) hn ((hb.drop a).take n)
theorem vat_lt (l : List Int) (a n : Nat) (hb : Bytes l) (hn : n ≤ 8) (h : a + n ≤ l.length) : vat l a n < 256 ^ n :=
  vl_lt n _ (by rw [List.length_take, List.length_drop]; omega) hn ((hb.drop a).take n)
theorem vat_be (v : Int) (p q : List Int) (a n : Nat) (ha : p.length = a) (hn : n ≤ 8) (h0 : 0 ≤ v) (h1 : v < 256 ^ n) : vat (p ++ be v n ++ q) a n = v := by
  unfold vat
  subst ha
  rw [List.append_assoc, List.drop_left, List.take_append_of_le_length (by rw [be_length]; omega), List.take_of_length_le (by rw [be_length]; omega), vl_be n v hn h0 h1]
end Go.Proofs.Ytilgfhiomcfmhaa.Octa
