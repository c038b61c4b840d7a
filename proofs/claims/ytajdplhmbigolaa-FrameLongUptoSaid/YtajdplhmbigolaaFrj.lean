/- FrameLong, walked: of every option that is too long and of fewer than 2^31 bytes. -/
import Derived.Test.YtajdplhmbigolaaFri
import Derived.Test.YtajdplhmbigolaaWira
import Derived.Test.YtajdplhmbigolaaPureBytes
namespace Go.Proofs.Ytajdplhmbigolaa.Fra
open Go.RowKit Go.Proofs.YtajdplhmbigolaaW.PrintWords Go.Proofs.YtajdplhmbigolaaW.PrintLast Go.Proofs.Ytajdplhmbigolaa.Octa Go.Proofs.Ytajdplhmbigolaa.Hand
set_option linter.unusedVariables false

def msg (cd : Int) (data : List Int) (next : Int) : List Int := (be 5280542401877725268 8 ++ be cd 4 ++ be data.length 4 ++ data) ++ be next 4
theorem msg_length (cd : Int) (data : List Int) (next : Int) : (msg cd data next).length = 16 + data.length + 4 := by simp [msg, be_length]; omega

theorem pow4 {v : Int} (h : v ≤ 4294967295) : v < 256 ^ 4 := by
  have : (256 : Int) ^ 4 = 4294967296 := by decide
  omega
theorem vat_of_take (l : List Int) (a n m : Nat) (h : a + n ≤ m) : vat (l.take m) a n = vat l a n := by unfold vat; exact vat_take l a n m h

theorem msg_short (cd : Int) (data : List Int) (next most : Int) (at_ : Nat) (h : at_ < 16) : wire_DecodeOption.f ((msg cd data next).take at_) most = some (0, 0, false, [], 16, 10) := by
  unfold wire_DecodeOption.f
  have hl : ((msg cd data next).take at_).length < 16 := by rw [List.length_take]; omega
  rw [if_pos (by omega), if_pos hl]
theorem msg_long (cd : Int) (data : List Int) (next most : Int) (at_ : Nat) (h : 16 ≤ at_) (h2 : at_ ≤ 20) (hc : 0 ≤ cd ∧ cd ≤ 4294967295) (hd : data.length ≤ 2147483647) (hm : most < data.length) :
    wire_DecodeOption.f ((msg cd data next).take at_) most = some (cd, (data.length : Int), true, [], ((16 : Nat) : Int), 12) := by
  have hl : ((msg cd data next).take at_).length = min at_ (16 + data.length + 4) := by rw [List.length_take, msg_length]
  have v0 : vat ((msg cd data next).take at_) 0 8 = 5280542401877725268 := by
    rw [vat_of_take _ _ _ _ (by omega)]
    have := vat_be 5280542401877725268 [] (be cd 4 ++ (be data.length 4 ++ (data ++ be next 4))) 0 8 rfl (by omega) (by omega) (by decide)
    simpa [msg] using this
  have v1 : vat ((msg cd data next).take at_) 8 4 = cd := by
    rw [vat_of_take _ _ _ _ (by omega)]
    have := vat_be cd (be 5280542401877725268 8) (be data.length 4 ++ (data ++ be next 4)) 8 4 (by simp [be_length]) (by omega) hc.1 (pow4 (by omega))
    simpa [msg] using this
  have v2 : vat ((msg cd data next).take at_) 12 4 = data.length := by
    rw [vat_of_take _ _ _ _ (by omega)]
    have := vat_be (data.length : Int) (be 5280542401877725268 8 ++ be cd 4) (data ++ be next 4) 12 4 (by simp [be_length]) (by omega) (by omega) (pow4 (by omega))
    simpa [msg] using this
  unfold wire_DecodeOption.f
  rw [if_pos (by omega), if_neg (by omega), v0, v1, v2, if_pos rfl, if_pos (by omega), Int.emod_eq_of_lt hc.1 (by omega), Int.emod_eq_of_lt (by omega) (by omega)]
  rfl

/-- Feeding on behind an option that is passed over. -/
theorem feed_on (Bs : List Int) (n a m : Nat) (ha : 16 ≤ a) (hB : Bs.length = 16 + n + 4) (hm1 : a + m ≤ Bs.length) :
    let xs := (Bs.take a).drop (16 + n); let ys := (Bs.take (a + m)).drop a; let over := min (16 + n - a) ys.length; let nf := min (ys.length - over) (20 - xs.length)
    ys.length = m ∧ over + nf = m ∧ xs ++ (ys.take (over + nf)).drop over = (Bs.take (a + m)).drop (16 + n) ∧ 16 + n - a - over = 16 + n - (a + m) := by
  intro xs ys over nf
  have hy : ys.length = m := by simp [ys, List.length_drop, List.length_take]; omega
  have hx : xs.length = a - (16 + n) := by simp [xs, List.length_drop, List.length_take]; omega
  have hs : over + nf = m := by simp only [nf, over, hy, hx]; omega
  refine ⟨hy, hs, ?_, by simp only [over, hy]; omega⟩
  rw [hs, List.take_of_length_le (by omega)]
  simp only [xs, ys, List.drop_drop]
  rcases Nat.le_total (16 + n) a with h | h
  · have ho : over = 0 := by simp only [over]; omega
    rw [ho, Nat.add_zero]
    apply List.ext_getElem?
    intro i
    by_cases hi : i < a - (16 + n)
    · rw [List.getElem?_append_left (by simp; omega), List.getElem?_drop, List.getElem?_drop, List.getElem?_take_of_lt (by omega), List.getElem?_take_of_lt (by omega)]
    · rw [List.getElem?_append_right (by simp; omega), List.getElem?_drop, List.getElem?_drop]
      congr 1
      simp; omega
  · rw [List.drop_of_length_le (by simp; omega), List.nil_append]
    rcases Nat.le_total (16 + n) (a + m) with h2 | h2
    · congr 1; simp only [over, hy]; omega
    · rw [List.drop_of_length_le (by simp; simp only [over, hy]; omega), List.drop_of_length_le (by simp; omega)]
end Go.Proofs.Ytajdplhmbigolaa.Fra
