-- Written by a program of this workplace (pprint.py) out of the translation.
import Derived.Test.YtilgfhiomcfmhaaPZx0
namespace Go.Proofs.Ytilgfhiomcfmhaa.PZ
open Go.Proofs.Ytilgfhiomcfmhaa.Hand Go.RowKit Go.Proofs.YtilgfhiomcfmhaaW.PrintWords Go.Proofs.YtilgfhiomcfmhaaW.PrintLast
set_option linter.unusedVariables false
set_option linter.unusedSimpArgs false

/-! ### spindlelaw08_num: function 13 -/
def spindlelaw08_num.f (a0 : Int) : Option (Int) := some a0
set_option maxHeartbeats 8000000 in
set_option maxRecDepth 100000 in
theorem spindlelaw08_num.calls (a0 : Int) (r : Int) (w : World) (h : spindlelaw08_num.f a0 = some r) :
    Calls Try.prog 13 #[.int .i64 a0] w fun e w' => e = .returned (.int .i64 r) ∧ Drawn0 w w' := by
  have H : (some a0) = some r := h
  clear h
  obtain rfl := Option.some.inj H
  go_enter Try.func13, Try.ntmps13
  go_wp2
  go_ret
  exact ⟨by first | rfl | (simp; done) | (simp [*]; done), by repeat (first | exact Drawn0.refl _ | apply Drawn0.step)⟩

/-! ### wire_table: function 62 -/
def wire_table.f (a0 : Int) : Option ((List (S118))) := if a0 = 1 then (some (([(⟨1, (⟨#[101, 120, 112, 111, 114, 116, 45, 110, 97, 109, 101]⟩ : ByteArray)⟩ : S118), (⟨2, (⟨#[97, 98, 111, 114, 116]⟩ : ByteArray)⟩ : S118), (⟨3, (⟨#[108, 105, 115, 116]⟩ : ByteArray)⟩ : S118), (⟨5, (⟨#[115, 116, 97, 114, 116, 116, 108, 115]⟩ : ByteArray)⟩ : S118), (⟨6, (⟨#[105, 110, 102, 111]⟩ : ByteArray)⟩ : S118), (⟨7, (⟨#[103, 111]⟩ : ByteArray)⟩ : S118), (⟨8, (⟨#[115, 116, 114, 117, 99, 116, 117, 114, 101, 100, 45, 114, 101, 112, 108, 121]⟩ : ByteArray)⟩ : S118), (⟨9, (⟨#[108, 105, 115, 116, 45, 109, 101, 116, 97, 45, 99, 111, 110, 116, 101, 120, 116]⟩ : ByteArray)⟩ : S118), (⟨10, (⟨#[115, 101, 116, 45, 109, 101, 116, 97, 45, 99, 111, 110, 116, 101, 120, 116]⟩ : ByteArray)⟩ : S118), (⟨11, (⟨#[101, 120, 116, 101, 110, 100, 101, 100, 45, 104, 101, 97, 100, 101, 114, 115]⟩ : ByteArray)⟩ : S118)] : List (S118)))) else (if a0 = 2 then (some (([(⟨1, (⟨#[97, 99, 107]⟩ : ByteArray)⟩ : S118), (⟨2, (⟨#[115, 101, 114, 118, 101, 114]⟩ : ByteArray)⟩ : S118), (⟨3, (⟨#[105, 110, 102, 111]⟩ : ByteArray)⟩ : S118), (⟨4, (⟨#[109, 101, 116, 97, 45, 99, 111, 110, 116, 101, 120, 116]⟩ : ByteArray)⟩ : S118), (⟨2147483649, (⟨#[117, 110, 115, 117, 112]⟩ : ByteArray)⟩ : S118), (⟨2147483650, (⟨#[112, 111, 108, 105, 99, 121]⟩ : ByteArray)⟩ : S118), (⟨2147483651, (⟨#[105, 110, 118, 97, 108, 105, 100]⟩ : ByteArray)⟩ : S118), (⟨2147483652, (⟨#[112, 108, 97, 116, 102, 111, 114, 109]⟩ : ByteArray)⟩ : S118), (⟨2147483653, (⟨#[116, 108, 115, 45, 114, 101, 113, 100]⟩ : ByteArray)⟩ : S118), (⟨2147483654, (⟨#[117, 110, 107, 110, 111, 119, 110]⟩ : ByteArray)⟩ : S118), (⟨2147483655, (⟨#[115, 104, 117, 116, 100, 111, 119, 110]⟩ : ByteArray)⟩ : S118), (⟨2147483656, (⟨#[98, 108, 111, 99, 107, 45, 115, 105, 122, 101, 45, 114, 101, 113, 100]⟩ : ByteArray)⟩ : S118), (⟨2147483657, (⟨#[116, 111, 111, 45, 98, 105, 103]⟩ : ByteArray)⟩ : S118), (⟨2147483658, (⟨#[101, 120, 116, 45, 104, 101, 97, 100, 101, 114, 45, 114, 101, 113, 100]⟩ : ByteArray)⟩ : S118)] : List (S118)))) else (if a0 = 3 then (some (([(⟨0, (⟨#[101, 120, 112, 111, 114, 116]⟩ : ByteArray)⟩ : S118), (⟨1, (⟨#[110, 97, 109, 101]⟩ : ByteArray)⟩ : S118), (⟨2, (⟨#[100, 101, 115, 99, 114, 105, 112, 116, 105, 111, 110]⟩ : ByteArray)⟩ : S118), (⟨3, (⟨#[98, 108, 111, 99, 107, 45, 115, 105, 122, 101]⟩ : ByteArray)⟩ : S118)] : List (S118)))) else (if a0 = 4 then (some (([(⟨0, (⟨#[114, 101, 97, 100]⟩ : ByteArray)⟩ : S118), (⟨1, (⟨#[119, 114, 105, 116, 101]⟩ : ByteArray)⟩ : S118), (⟨2, (⟨#[100, 105, 115, 99]⟩ : ByteArray)⟩ : S118), (⟨3, (⟨#[102, 108, 117, 115, 104]⟩ : ByteArray)⟩ : S118), (⟨4, (⟨#[116, 114, 105, 109]⟩ : ByteArray)⟩ : S118), (⟨5, (⟨#[99, 97, 99, 104, 101]⟩ : ByteArray)⟩ : S118), (⟨6, (⟨#[119, 114, 105, 116, 101, 45, 122, 101, 114, 111, 101, 115]⟩ : ByteArray)⟩ : S118), (⟨7, (⟨#[98, 108, 111, 99, 107, 45, 115, 116, 97, 116, 117, 115]⟩ : ByteArray)⟩ : S118)] : List (S118)))) else (if a0 = 5 then (some (([(⟨0, (⟨#[110, 111, 110, 101]⟩ : ByteArray)⟩ : S118), (⟨1, (⟨#[100, 97, 116, 97]⟩ : ByteArray)⟩ : S118), (⟨2, (⟨#[104, 111, 108, 101]⟩ : ByteArray)⟩ : S118), (⟨5, (⟨#[115, 116, 97, 116, 117, 115]⟩ : ByteArray)⟩ : S118), (⟨6, (⟨#[115, 116, 97, 116, 117, 115, 45, 54, 52]⟩ : ByteArray)⟩ : S118), (⟨32769, (⟨#[101, 114, 114, 111, 114]⟩ : ByteArray)⟩ : S118), (⟨32770, (⟨#[101, 114, 114, 111, 114, 45, 97, 116]⟩ : ByteArray)⟩ : S118)] : List (S118)))) else (if a0 = 6 then (some (([(⟨0, (⟨#[111, 107]⟩ : ByteArray)⟩ : S118), (⟨1, (⟨#[101, 112, 101, 114, 109]⟩ : ByteArray)⟩ : S118), (⟨5, (⟨#[101, 105, 111]⟩ : ByteArray)⟩ : S118), (⟨12, (⟨#[101, 110, 111, 109, 101, 109]⟩ : ByteArray)⟩ : S118), (⟨22, (⟨#[101, 105, 110, 118, 97, 108]⟩ : ByteArray)⟩ : S118), (⟨28, (⟨#[101, 110, 111, 115, 112, 99]⟩ : ByteArray)⟩ : S118), (⟨75, (⟨#[101, 111, 118, 101, 114, 102, 108, 111, 119]⟩ : ByteArray)⟩ : S118), (⟨95, (⟨#[101, 110, 111, 116, 115, 117, 112]⟩ : ByteArray)⟩ : S118), (⟨108, (⟨#[101, 115, 104, 117, 116, 100, 111, 119, 110]⟩ : ByteArray)⟩ : S118)] : List (S118)))) else (if a0 = 7 then (some (([(⟨1, (⟨#[98, 97, 115, 101, 58, 97, 108, 108, 111, 99, 97, 116, 105, 111, 110]⟩ : ByteArray)⟩ : S118), (⟨2, (⟨#[115, 112, 105, 110, 100, 108, 101, 58, 117, 110, 115, 97, 118, 101, 100]⟩ : ByteArray)⟩ : S118), (⟨3, (⟨#[115, 112, 105, 110, 100, 108, 101, 58, 100, 105, 114, 116, 121]⟩ : ByteArray)⟩ : S118)] : List (S118)))) else (some ([] : List (S118)))))))))
set_option maxHeartbeats 8000000 in
set_option maxRecDepth 100000 in
theorem wire_table.calls (a0 : Int) (r : List (S118)) (w : World) (h : wire_table.f a0 = some r) :
    Calls Try.prog 62 #[.int .i64 a0] w fun e w' => ∃ v0_ : Value, e = .returned (v0_) ∧ Kd.R k118 118 w' w.heap.size (fun _ => True) v0_ r ∧ Below w.heap.size w w' := by
  have hu118 := Try.underlying118
  have HB := Aside0.mk (Below.refl w.heap.size w)
  have H : (if a0 = 1 then (some (([(⟨1, (⟨#[101, 120, 112, 111, 114, 116, 45, 110, 97, 109, 101]⟩ : ByteArray)⟩ : S118), (⟨2, (⟨#[97, 98, 111, 114, 116]⟩ : ByteArray)⟩ : S118), (⟨3, (⟨#[108, 105, 115, 116]⟩ : ByteArray)⟩ : S118), (⟨5, (⟨#[115, 116, 97, 114, 116, 116, 108, 115]⟩ : ByteArray)⟩ : S118), (⟨6, (⟨#[105, 110, 102, 111]⟩ : ByteArray)⟩ : S118), (⟨7, (⟨#[103, 111]⟩ : ByteArray)⟩ : S118), (⟨8, (⟨#[115, 116, 114, 117, 99, 116, 117, 114, 101, 100, 45, 114, 101, 112, 108, 121]⟩ : ByteArray)⟩ : S118), (⟨9, (⟨#[108, 105, 115, 116, 45, 109, 101, 116, 97, 45, 99, 111, 110, 116, 101, 120, 116]⟩ : ByteArray)⟩ : S118), (⟨10, (⟨#[115, 101, 116, 45, 109, 101, 116, 97, 45, 99, 111, 110, 116, 101, 120, 116]⟩ : ByteArray)⟩ : S118), (⟨11, (⟨#[101, 120, 116, 101, 110, 100, 101, 100, 45, 104, 101, 97, 100, 101, 114, 115]⟩ : ByteArray)⟩ : S118)] : List (S118)))) else (if a0 = 2 then (some (([(⟨1, (⟨#[97, 99, 107]⟩ : ByteArray)⟩ : S118), (⟨2, (⟨#[115, 101, 114, 118, 101, 114]⟩ : ByteArray)⟩ : S118), (⟨3, (⟨#[105, 110, 102, 111]⟩ : ByteArray)⟩ : S118), (⟨4, (⟨#[109, 101, 116, 97, 45, 99, 111, 110, 116, 101, 120, 116]⟩ : ByteArray)⟩ : S118), (⟨2147483649, (⟨#[117, 110, 115, 117, 112]⟩ : ByteArray)⟩ : S118), (⟨2147483650, (⟨#[112, 111, 108, 105, 99, 121]⟩ : ByteArray)⟩ : S118), (⟨2147483651, (⟨#[105, 110, 118, 97, 108, 105, 100]⟩ : ByteArray)⟩ : S118), (⟨2147483652, (⟨#[112, 108, 97, 116, 102, 111, 114, 109]⟩ : ByteArray)⟩ : S118), (⟨2147483653, (⟨#[116, 108, 115, 45, 114, 101, 113, 100]⟩ : ByteArray)⟩ : S118), (⟨2147483654, (⟨#[117, 110, 107, 110, 111, 119, 110]⟩ : ByteArray)⟩ : S118), (⟨2147483655, (⟨#[115, 104, 117, 116, 100, 111, 119, 110]⟩ : ByteArray)⟩ : S118), (⟨2147483656, (⟨#[98, 108, 111, 99, 107, 45, 115, 105, 122, 101, 45, 114, 101, 113, 100]⟩ : ByteArray)⟩ : S118), (⟨2147483657, (⟨#[116, 111, 111, 45, 98, 105, 103]⟩ : ByteArray)⟩ : S118), (⟨2147483658, (⟨#[101, 120, 116, 45, 104, 101, 97, 100, 101, 114, 45, 114, 101, 113, 100]⟩ : ByteArray)⟩ : S118)] : List (S118)))) else (if a0 = 3 then (some (([(⟨0, (⟨#[101, 120, 112, 111, 114, 116]⟩ : ByteArray)⟩ : S118), (⟨1, (⟨#[110, 97, 109, 101]⟩ : ByteArray)⟩ : S118), (⟨2, (⟨#[100, 101, 115, 99, 114, 105, 112, 116, 105, 111, 110]⟩ : ByteArray)⟩ : S118), (⟨3, (⟨#[98, 108, 111, 99, 107, 45, 115, 105, 122, 101]⟩ : ByteArray)⟩ : S118)] : List (S118)))) else (if a0 = 4 then (some (([(⟨0, (⟨#[114, 101, 97, 100]⟩ : ByteArray)⟩ : S118), (⟨1, (⟨#[119, 114, 105, 116, 101]⟩ : ByteArray)⟩ : S118), (⟨2, (⟨#[100, 105, 115, 99]⟩ : ByteArray)⟩ : S118), (⟨3, (⟨#[102, 108, 117, 115, 104]⟩ : ByteArray)⟩ : S118), (⟨4, (⟨#[116, 114, 105, 109]⟩ : ByteArray)⟩ : S118), (⟨5, (⟨#[99, 97, 99, 104, 101]⟩ : ByteArray)⟩ : S118), (⟨6, (⟨#[119, 114, 105, 116, 101, 45, 122, 101, 114, 111, 101, 115]⟩ : ByteArray)⟩ : S118), (⟨7, (⟨#[98, 108, 111, 99, 107, 45, 115, 116, 97, 116, 117, 115]⟩ : ByteArray)⟩ : S118)] : List (S118)))) else (if a0 = 5 then (some (([(⟨0, (⟨#[110, 111, 110, 101]⟩ : ByteArray)⟩ : S118), (⟨1, (⟨#[100, 97, 116, 97]⟩ : ByteArray)⟩ : S118), (⟨2, (⟨#[104, 111, 108, 101]⟩ : ByteArray)⟩ : S118), (⟨5, (⟨#[115, 116, 97, 116, 117, 115]⟩ : ByteArray)⟩ : S118), (⟨6, (⟨#[115, 116, 97, 116, 117, 115, 45, 54, 52]⟩ : ByteArray)⟩ : S118), (⟨32769, (⟨#[101, 114, 114, 111, 114]⟩ : ByteArray)⟩ : S118), (⟨32770, (⟨#[101, 114, 114, 111, 114, 45, 97, 116]⟩ : ByteArray)⟩ : S118)] : List (S118)))) else (if a0 = 6 then (some (([(⟨0, (⟨#[111, 107]⟩ : ByteArray)⟩ : S118), (⟨1, (⟨#[101, 112, 101, 114, 109]⟩ : ByteArray)⟩ : S118), (⟨5, (⟨#[101, 105, 111]⟩ : ByteArray)⟩ : S118), (⟨12, (⟨#[101, 110, 111, 109, 101, 109]⟩ : ByteArray)⟩ : S118), (⟨22, (⟨#[101, 105, 110, 118, 97, 108]⟩ : ByteArray)⟩ : S118), (⟨28, (⟨#[101, 110, 111, 115, 112, 99]⟩ : ByteArray)⟩ : S118), (⟨75, (⟨#[101, 111, 118, 101, 114, 102, 108, 111, 119]⟩ : ByteArray)⟩ : S118), (⟨95, (⟨#[101, 110, 111, 116, 115, 117, 112]⟩ : ByteArray)⟩ : S118), (⟨108, (⟨#[101, 115, 104, 117, 116, 100, 111, 119, 110]⟩ : ByteArray)⟩ : S118)] : List (S118)))) else (if a0 = 7 then (some (([(⟨1, (⟨#[98, 97, 115, 101, 58, 97, 108, 108, 111, 99, 97, 116, 105, 111, 110]⟩ : ByteArray)⟩ : S118), (⟨2, (⟨#[115, 112, 105, 110, 100, 108, 101, 58, 117, 110, 115, 97, 118, 101, 100]⟩ : ByteArray)⟩ : S118), (⟨3, (⟨#[115, 112, 105, 110, 100, 108, 101, 58, 100, 105, 114, 116, 121]⟩ : ByteArray)⟩ : S118)] : List (S118)))) else (some ([] : List (S118)))))))))) = some r := h
  clear h
  by_cases c2 : a0 = 1
  · rw [if_pos c2] at H
    have c2b0 : (a0 == 1) = true := beq_iff_eq.mpr c2
    have c2b1 : (a0 != 1) = false := bne_eq_false_iff_eq.mpr c2
    clear c2
    obtain ⟨y101, hy101⟩ : ∃ y_ : List (S118), y_ = (([(⟨1, (⟨#[101, 120, 112, 111, 114, 116, 45, 110, 97, 109, 101]⟩ : ByteArray)⟩ : S118), (⟨2, (⟨#[97, 98, 111, 114, 116]⟩ : ByteArray)⟩ : S118), (⟨3, (⟨#[108, 105, 115, 116]⟩ : ByteArray)⟩ : S118), (⟨5, (⟨#[115, 116, 97, 114, 116, 116, 108, 115]⟩ : ByteArray)⟩ : S118), (⟨6, (⟨#[105, 110, 102, 111]⟩ : ByteArray)⟩ : S118), (⟨7, (⟨#[103, 111]⟩ : ByteArray)⟩ : S118), (⟨8, (⟨#[115, 116, 114, 117, 99, 116, 117, 114, 101, 100, 45, 114, 101, 112, 108, 121]⟩ : ByteArray)⟩ : S118), (⟨9, (⟨#[108, 105, 115, 116, 45, 109, 101, 116, 97, 45, 99, 111, 110, 116, 101, 120, 116]⟩ : ByteArray)⟩ : S118), (⟨10, (⟨#[115, 101, 116, 45, 109, 101, 116, 97, 45, 99, 111, 110, 116, 101, 120, 116]⟩ : ByteArray)⟩ : S118), (⟨11, (⟨#[101, 120, 116, 101, 110, 100, 101, 100, 45, 104, 101, 97, 100, 101, 114, 115]⟩ : ByteArray)⟩ : S118)] : List (S118))) := ⟨_, rfl⟩
    replace H : (some y101) = some r := by first | (rw [hy101]; with_reducible exact H) | (have H2_ := (Option.bind_some _ _).symm.trans H; rw [hy101]; with_reducible exact H2_) | (have H2_ := (Option.bind_some _ _).symm.trans H; with_reducible exact H2_) | with_reducible exact H | (rw [hy101]; exact H) | exact H
    have Ny101 := Aside0.mk hy101
    clear hy101
    obtain rfl := Option.some.inj H
    go_enter Try.func62, Try.ntmps62
    go_wp2_with (first | ((with_reducible refine gate_dst (N := 16) rfl ?_); refine Kd.R_lit k118 _ 118 ?hg (N := 16) ?hd (xs := ([(⟨1, (⟨#[101, 120, 112, 111, 114, 116, 45, 110, 97, 109, 101]⟩ : ByteArray)⟩ : S118), (⟨2, (⟨#[97, 98, 111, 114, 116]⟩ : ByteArray)⟩ : S118), (⟨3, (⟨#[108, 105, 115, 116]⟩ : ByteArray)⟩ : S118), (⟨5, (⟨#[115, 116, 97, 114, 116, 116, 108, 115]⟩ : ByteArray)⟩ : S118), (⟨6, (⟨#[105, 110, 102, 111]⟩ : ByteArray)⟩ : S118), (⟨7, (⟨#[103, 111]⟩ : ByteArray)⟩ : S118), (⟨8, (⟨#[115, 116, 114, 117, 99, 116, 117, 114, 101, 100, 45, 114, 101, 112, 108, 121]⟩ : ByteArray)⟩ : S118), (⟨9, (⟨#[108, 105, 115, 116, 45, 109, 101, 116, 97, 45, 99, 111, 110, 116, 101, 120, 116]⟩ : ByteArray)⟩ : S118), (⟨10, (⟨#[115, 101, 116, 45, 109, 101, 116, 97, 45, 99, 111, 110, 116, 101, 120, 116]⟩ : ByteArray)⟩ : S118), (⟨11, (⟨#[101, 120, 116, 101, 110, 100, 101, 100, 45, 104, 101, 97, 100, 101, 114, 115]⟩ : ByteArray)⟩ : S118)] : List (S118))) (inner := [.int .u32 1, .string (⟨#[101, 120, 112, 111, 114, 116, 45, 110, 97, 109, 101]⟩ : ByteArray), .int .u32 2, .string (⟨#[97, 98, 111, 114, 116]⟩ : ByteArray), .int .u32 3, .string (⟨#[108, 105, 115, 116]⟩ : ByteArray), .int .u32 5, .string (⟨#[115, 116, 97, 114, 116, 116, 108, 115]⟩ : ByteArray), .int .u32 6, .string (⟨#[105, 110, 102, 111]⟩ : ByteArray), .int .u32 7, .string (⟨#[103, 111]⟩ : ByteArray), .int .u32 8, .string (⟨#[115, 116, 114, 117, 99, 116, 117, 114, 101, 100, 45, 114, 101, 112, 108, 121]⟩ : ByteArray), .int .u32 9, .string (⟨#[108, 105, 115, 116, 45, 109, 101, 116, 97, 45, 99, 111, 110, 116, 101, 120, 116]⟩ : ByteArray), .int .u32 10, .string (⟨#[115, 101, 116, 45, 109, 101, 116, 97, 45, 99, 111, 110, 116, 101, 120, 116]⟩ : ByteArray), .int .u32 11, .string (⟨#[101, 120, 116, 101, 110, 100, 101, 100, 45, 104, 101, 97, 100, 101, 114, 115]⟩ : ByteArray)]) (ok := fun _ => True) (okp := fun _ => True) ?hr ?hp (fun _ hk => hk) trivial (Below.refl _ _) (Nat.le_refl _) (by simp) ?_; (case hd => rfl); (case hg => rfl); (case hr => first | (go_simp; done) | (go_simp; rfl)); (case hp => exact (Reps.c2 (show Kd.M k118 _ _ _ (⟨1, (⟨#[101, 120, 112, 111, 114, 116, 45, 110, 97, 109, 101]⟩ : ByteArray)⟩ : S118) [.int .u32 1, .string (⟨#[101, 120, 112, 111, 114, 116, 45, 110, 97, 109, 101]⟩ : ByteArray)] from (k118_mkM _ _ _ (⟨1, (⟨#[101, 120, 112, 111, 114, 116, 45, 110, 97, 109, 101]⟩ : ByteArray)⟩ : S118) )) (Reps.c2 (show Kd.M k118 _ _ _ (⟨2, (⟨#[97, 98, 111, 114, 116]⟩ : ByteArray)⟩ : S118) [.int .u32 2, .string (⟨#[97, 98, 111, 114, 116]⟩ : ByteArray)] from (k118_mkM _ _ _ (⟨2, (⟨#[97, 98, 111, 114, 116]⟩ : ByteArray)⟩ : S118) )) (Reps.c2 (show Kd.M k118 _ _ _ (⟨3, (⟨#[108, 105, 115, 116]⟩ : ByteArray)⟩ : S118) [.int .u32 3, .string (⟨#[108, 105, 115, 116]⟩ : ByteArray)] from (k118_mkM _ _ _ (⟨3, (⟨#[108, 105, 115, 116]⟩ : ByteArray)⟩ : S118) )) (Reps.c2 (show Kd.M k118 _ _ _ (⟨5, (⟨#[115, 116, 97, 114, 116, 116, 108, 115]⟩ : ByteArray)⟩ : S118) [.int .u32 5, .string (⟨#[115, 116, 97, 114, 116, 116, 108, 115]⟩ : ByteArray)] from (k118_mkM _ _ _ (⟨5, (⟨#[115, 116, 97, 114, 116, 116, 108, 115]⟩ : ByteArray)⟩ : S118) )) (Reps.c2 (show Kd.M k118 _ _ _ (⟨6, (⟨#[105, 110, 102, 111]⟩ : ByteArray)⟩ : S118) [.int .u32 6, .string (⟨#[105, 110, 102, 111]⟩ : ByteArray)] from (k118_mkM _ _ _ (⟨6, (⟨#[105, 110, 102, 111]⟩ : ByteArray)⟩ : S118) )) (Reps.c2 (show Kd.M k118 _ _ _ (⟨7, (⟨#[103, 111]⟩ : ByteArray)⟩ : S118) [.int .u32 7, .string (⟨#[103, 111]⟩ : ByteArray)] from (k118_mkM _ _ _ (⟨7, (⟨#[103, 111]⟩ : ByteArray)⟩ : S118) )) (Reps.c2 (show Kd.M k118 _ _ _ (⟨8, (⟨#[115, 116, 114, 117, 99, 116, 117, 114, 101, 100, 45, 114, 101, 112, 108, 121]⟩ : ByteArray)⟩ : S118) [.int .u32 8, .string (⟨#[115, 116, 114, 117, 99, 116, 117, 114, 101, 100, 45, 114, 101, 112, 108, 121]⟩ : ByteArray)] from (k118_mkM _ _ _ (⟨8, (⟨#[115, 116, 114, 117, 99, 116, 117, 114, 101, 100, 45, 114, 101, 112, 108, 121]⟩ : ByteArray)⟩ : S118) )) (Reps.c2 (show Kd.M k118 _ _ _ (⟨9, (⟨#[108, 105, 115, 116, 45, 109, 101, 116, 97, 45, 99, 111, 110, 116, 101, 120, 116]⟩ : ByteArray)⟩ : S118) [.int .u32 9, .string (⟨#[108, 105, 115, 116, 45, 109, 101, 116, 97, 45, 99, 111, 110, 116, 101, 120, 116]⟩ : ByteArray)] from (k118_mkM _ _ _ (⟨9, (⟨#[108, 105, 115, 116, 45, 109, 101, 116, 97, 45, 99, 111, 110, 116, 101, 120, 116]⟩ : ByteArray)⟩ : S118) )) (Reps.c2 (show Kd.M k118 _ _ _ (⟨10, (⟨#[115, 101, 116, 45, 109, 101, 116, 97, 45, 99, 111, 110, 116, 101, 120, 116]⟩ : ByteArray)⟩ : S118) [.int .u32 10, .string (⟨#[115, 101, 116, 45, 109, 101, 116, 97, 45, 99, 111, 110, 116, 101, 120, 116]⟩ : ByteArray)] from (k118_mkM _ _ _ (⟨10, (⟨#[115, 101, 116, 45, 109, 101, 116, 97, 45, 99, 111, 110, 116, 101, 120, 116]⟩ : ByteArray)⟩ : S118) )) (Reps.c2 (show Kd.M k118 _ _ _ (⟨11, (⟨#[101, 120, 116, 101, 110, 100, 101, 100, 45, 104, 101, 97, 100, 101, 114, 115]⟩ : ByteArray)⟩ : S118) [.int .u32 11, .string (⟨#[101, 120, 116, 101, 110, 100, 101, 100, 45, 104, 101, 97, 100, 101, 114, 115]⟩ : ByteArray)] from (k118_mkM _ _ _ (⟨11, (⟨#[101, 120, 116, 101, 110, 100, 101, 100, 45, 104, 101, 97, 100, 101, 114, 115]⟩ : ByteArray)⟩ : S118) )) (Reps.none _ _)))))))))))); intro v102 w3 ho4 hb hg_ hnew_; clear hg_ hnew_; (first | rw [← Ny101.out] at ho4 | (simp only [Int.reduceToNat] at ho4; rw [← Ny101.out] at ho4)); have n0_ := Aside0.mk (Kd.R_lower ho4 (below_size (by repeat (first | (with_reducible first | exact HB.out | apply below_alloc | apply pw_below_drewN | apply below_drew1) | exact HB.out)))); have n1_ := Aside0.mk (below_step (by repeat (first | (with_reducible first | exact HB.out | apply below_alloc | apply pw_below_drewN | apply below_drew1) | exact HB.out)) hb); clear HB; have HO103 := n0_; have HB := n1_; clear n0_ n1_; clear hb ho4))
    go_ret
    exact ⟨_, by first | rfl | (simp [errW_none, errW_some] <;> rfl) | (simp [*, errW_none, errW_some] <;> rfl) | (exfalso; simp_all; done), by (with_reducible repeat (first | apply Kd.R_alloc | apply Kd.R_drewN | apply Kd.R_drew)); exact HO103.out, by repeat (first | (with_reducible first | exact HB.out | apply below_alloc | apply pw_below_drewN | apply below_drew1) | exact HB.out)⟩
  · rw [if_neg c2] at H
    have c2b0 : (a0 == 1) = false := beq_eq_false_iff_ne.mpr c2
    have c2b1 : (a0 != 1) = true := bne_iff_ne.mpr c2
    by_cases c5 : a0 = 2
    · rw [if_pos c5] at H
      have c5b0 : (a0 == 2) = true := beq_iff_eq.mpr c5
      have c5b1 : (a0 != 2) = false := bne_eq_false_iff_eq.mpr c5
      clear c5
      obtain ⟨y104, hy104⟩ : ∃ y_ : List (S118), y_ = (([(⟨1, (⟨#[97, 99, 107]⟩ : ByteArray)⟩ : S118), (⟨2, (⟨#[115, 101, 114, 118, 101, 114]⟩ : ByteArray)⟩ : S118), (⟨3, (⟨#[105, 110, 102, 111]⟩ : ByteArray)⟩ : S118), (⟨4, (⟨#[109, 101, 116, 97, 45, 99, 111, 110, 116, 101, 120, 116]⟩ : ByteArray)⟩ : S118), (⟨2147483649, (⟨#[117, 110, 115, 117, 112]⟩ : ByteArray)⟩ : S118), (⟨2147483650, (⟨#[112, 111, 108, 105, 99, 121]⟩ : ByteArray)⟩ : S118), (⟨2147483651, (⟨#[105, 110, 118, 97, 108, 105, 100]⟩ : ByteArray)⟩ : S118), (⟨2147483652, (⟨#[112, 108, 97, 116, 102, 111, 114, 109]⟩ : ByteArray)⟩ : S118), (⟨2147483653, (⟨#[116, 108, 115, 45, 114, 101, 113, 100]⟩ : ByteArray)⟩ : S118), (⟨2147483654, (⟨#[117, 110, 107, 110, 111, 119, 110]⟩ : ByteArray)⟩ : S118), (⟨2147483655, (⟨#[115, 104, 117, 116, 100, 111, 119, 110]⟩ : ByteArray)⟩ : S118), (⟨2147483656, (⟨#[98, 108, 111, 99, 107, 45, 115, 105, 122, 101, 45, 114, 101, 113, 100]⟩ : ByteArray)⟩ : S118), (⟨2147483657, (⟨#[116, 111, 111, 45, 98, 105, 103]⟩ : ByteArray)⟩ : S118), (⟨2147483658, (⟨#[101, 120, 116, 45, 104, 101, 97, 100, 101, 114, 45, 114, 101, 113, 100]⟩ : ByteArray)⟩ : S118)] : List (S118))) := ⟨_, rfl⟩
      replace H : (some y104) = some r := by first | (rw [hy104]; with_reducible exact H) | (have H2_ := (Option.bind_some _ _).symm.trans H; rw [hy104]; with_reducible exact H2_) | (have H2_ := (Option.bind_some _ _).symm.trans H; with_reducible exact H2_) | with_reducible exact H | (rw [hy104]; exact H) | exact H
      have Ny104 := Aside0.mk hy104
      clear hy104
      obtain rfl := Option.some.inj H
      go_enter Try.func62, Try.ntmps62
      go_wp2_with (first | ((with_reducible refine gate_dst (N := 33) rfl ?_); refine Kd.R_lit k118 _ 118 ?hg (N := 33) ?hd (xs := ([(⟨1, (⟨#[97, 99, 107]⟩ : ByteArray)⟩ : S118), (⟨2, (⟨#[115, 101, 114, 118, 101, 114]⟩ : ByteArray)⟩ : S118), (⟨3, (⟨#[105, 110, 102, 111]⟩ : ByteArray)⟩ : S118), (⟨4, (⟨#[109, 101, 116, 97, 45, 99, 111, 110, 116, 101, 120, 116]⟩ : ByteArray)⟩ : S118), (⟨2147483649, (⟨#[117, 110, 115, 117, 112]⟩ : ByteArray)⟩ : S118), (⟨2147483650, (⟨#[112, 111, 108, 105, 99, 121]⟩ : ByteArray)⟩ : S118), (⟨2147483651, (⟨#[105, 110, 118, 97, 108, 105, 100]⟩ : ByteArray)⟩ : S118), (⟨2147483652, (⟨#[112, 108, 97, 116, 102, 111, 114, 109]⟩ : ByteArray)⟩ : S118), (⟨2147483653, (⟨#[116, 108, 115, 45, 114, 101, 113, 100]⟩ : ByteArray)⟩ : S118), (⟨2147483654, (⟨#[117, 110, 107, 110, 111, 119, 110]⟩ : ByteArray)⟩ : S118), (⟨2147483655, (⟨#[115, 104, 117, 116, 100, 111, 119, 110]⟩ : ByteArray)⟩ : S118), (⟨2147483656, (⟨#[98, 108, 111, 99, 107, 45, 115, 105, 122, 101, 45, 114, 101, 113, 100]⟩ : ByteArray)⟩ : S118), (⟨2147483657, (⟨#[116, 111, 111, 45, 98, 105, 103]⟩ : ByteArray)⟩ : S118), (⟨2147483658, (⟨#[101, 120, 116, 45, 104, 101, 97, 100, 101, 114, 45, 114, 101, 113, 100]⟩ : ByteArray)⟩ : S118)] : List (S118))) (inner := [.int .u32 1, .string (⟨#[97, 99, 107]⟩ : ByteArray), .int .u32 2, .string (⟨#[115, 101, 114, 118, 101, 114]⟩ : ByteArray), .int .u32 3, .string (⟨#[105, 110, 102, 111]⟩ : ByteArray), .int .u32 4, .string (⟨#[109, 101, 116, 97, 45, 99, 111, 110, 116, 101, 120, 116]⟩ : ByteArray), .int .u32 2147483649, .string (⟨#[117, 110, 115, 117, 112]⟩ : ByteArray), .int .u32 2147483650, .string (⟨#[112, 111, 108, 105, 99, 121]⟩ : ByteArray), .int .u32 2147483651, .string (⟨#[105, 110, 118, 97, 108, 105, 100]⟩ : ByteArray), .int .u32 2147483652, .string (⟨#[112, 108, 97, 116, 102, 111, 114, 109]⟩ : ByteArray), .int .u32 2147483653, .string (⟨#[116, 108, 115, 45, 114, 101, 113, 100]⟩ : ByteArray), .int .u32 2147483654, .string (⟨#[117, 110, 107, 110, 111, 119, 110]⟩ : ByteArray), .int .u32 2147483655, .string (⟨#[115, 104, 117, 116, 100, 111, 119, 110]⟩ : ByteArray), .int .u32 2147483656, .string (⟨#[98, 108, 111, 99, 107, 45, 115, 105, 122, 101, 45, 114, 101, 113, 100]⟩ : ByteArray), .int .u32 2147483657, .string (⟨#[116, 111, 111, 45, 98, 105, 103]⟩ : ByteArray), .int .u32 2147483658, .string (⟨#[101, 120, 116, 45, 104, 101, 97, 100, 101, 114, 45, 114, 101, 113, 100]⟩ : ByteArray)]) (ok := fun _ => True) (okp := fun _ => True) ?hr ?hp (fun _ hk => hk) trivial (Below.refl _ _) (Nat.le_refl _) (by simp) ?_; (case hd => rfl); (case hg => rfl); (case hr => first | (go_simp; done) | (go_simp; rfl)); (case hp => exact (Reps.c2 (show Kd.M k118 _ _ _ (⟨1, (⟨#[97, 99, 107]⟩ : ByteArray)⟩ : S118) [.int .u32 1, .string (⟨#[97, 99, 107]⟩ : ByteArray)] from (k118_mkM _ _ _ (⟨1, (⟨#[97, 99, 107]⟩ : ByteArray)⟩ : S118) )) (Reps.c2 (show Kd.M k118 _ _ _ (⟨2, (⟨#[115, 101, 114, 118, 101, 114]⟩ : ByteArray)⟩ : S118) [.int .u32 2, .string (⟨#[115, 101, 114, 118, 101, 114]⟩ : ByteArray)] from (k118_mkM _ _ _ (⟨2, (⟨#[115, 101, 114, 118, 101, 114]⟩ : ByteArray)⟩ : S118) )) (Reps.c2 (show Kd.M k118 _ _ _ (⟨3, (⟨#[105, 110, 102, 111]⟩ : ByteArray)⟩ : S118) [.int .u32 3, .string (⟨#[105, 110, 102, 111]⟩ : ByteArray)] from (k118_mkM _ _ _ (⟨3, (⟨#[105, 110, 102, 111]⟩ : ByteArray)⟩ : S118) )) (Reps.c2 (show Kd.M k118 _ _ _ (⟨4, (⟨#[109, 101, 116, 97, 45, 99, 111, 110, 116, 101, 120, 116]⟩ : ByteArray)⟩ : S118) [.int .u32 4, .string (⟨#[109, 101, 116, 97, 45, 99, 111, 110, 116, 101, 120, 116]⟩ : ByteArray)] from (k118_mkM _ _ _ (⟨4, (⟨#[109, 101, 116, 97, 45, 99, 111, 110, 116, 101, 120, 116]⟩ : ByteArray)⟩ : S118) )) (Reps.c2 (show Kd.M k118 _ _ _ (⟨2147483649, (⟨#[117, 110, 115, 117, 112]⟩ : ByteArray)⟩ : S118) [.int .u32 2147483649, .string (⟨#[117, 110, 115, 117, 112]⟩ : ByteArray)] from (k118_mkM _ _ _ (⟨2147483649, (⟨#[117, 110, 115, 117, 112]⟩ : ByteArray)⟩ : S118) )) (Reps.c2 (show Kd.M k118 _ _ _ (⟨2147483650, (⟨#[112, 111, 108, 105, 99, 121]⟩ : ByteArray)⟩ : S118) [.int .u32 2147483650, .string (⟨#[112, 111, 108, 105, 99, 121]⟩ : ByteArray)] from (k118_mkM _ _ _ (⟨2147483650, (⟨#[112, 111, 108, 105, 99, 121]⟩ : ByteArray)⟩ : S118) )) (Reps.c2 (show Kd.M k118 _ _ _ (⟨2147483651, (⟨#[105, 110, 118, 97, 108, 105, 100]⟩ : ByteArray)⟩ : S118) [.int .u32 2147483651, .string (⟨#[105, 110, 118, 97, 108, 105, 100]⟩ : ByteArray)] from (k118_mkM _ _ _ (⟨2147483651, (⟨#[105, 110, 118, 97, 108, 105, 100]⟩ : ByteArray)⟩ : S118) )) (Reps.c2 (show Kd.M k118 _ _ _ (⟨2147483652, (⟨#[112, 108, 97, 116, 102, 111, 114, 109]⟩ : ByteArray)⟩ : S118) [.int .u32 2147483652, .string (⟨#[112, 108, 97, 116, 102, 111, 114, 109]⟩ : ByteArray)] from (k118_mkM _ _ _ (⟨2147483652, (⟨#[112, 108, 97, 116, 102, 111, 114, 109]⟩ : ByteArray)⟩ : S118) )) (Reps.c2 (show Kd.M k118 _ _ _ (⟨2147483653, (⟨#[116, 108, 115, 45, 114, 101, 113, 100]⟩ : ByteArray)⟩ : S118) [.int .u32 2147483653, .string (⟨#[116, 108, 115, 45, 114, 101, 113, 100]⟩ : ByteArray)] from (k118_mkM _ _ _ (⟨2147483653, (⟨#[116, 108, 115, 45, 114, 101, 113, 100]⟩ : ByteArray)⟩ : S118) )) (Reps.c2 (show Kd.M k118 _ _ _ (⟨2147483654, (⟨#[117, 110, 107, 110, 111, 119, 110]⟩ : ByteArray)⟩ : S118) [.int .u32 2147483654, .string (⟨#[117, 110, 107, 110, 111, 119, 110]⟩ : ByteArray)] from (k118_mkM _ _ _ (⟨2147483654, (⟨#[117, 110, 107, 110, 111, 119, 110]⟩ : ByteArray)⟩ : S118) )) (Reps.c2 (show Kd.M k118 _ _ _ (⟨2147483655, (⟨#[115, 104, 117, 116, 100, 111, 119, 110]⟩ : ByteArray)⟩ : S118) [.int .u32 2147483655, .string (⟨#[115, 104, 117, 116, 100, 111, 119, 110]⟩ : ByteArray)] from (k118_mkM _ _ _ (⟨2147483655, (⟨#[115, 104, 117, 116, 100, 111, 119, 110]⟩ : ByteArray)⟩ : S118) )) (Reps.c2 (show Kd.M k118 _ _ _ (⟨2147483656, (⟨#[98, 108, 111, 99, 107, 45, 115, 105, 122, 101, 45, 114, 101, 113, 100]⟩ : ByteArray)⟩ : S118) [.int .u32 2147483656, .string (⟨#[98, 108, 111, 99, 107, 45, 115, 105, 122, 101, 45, 114, 101, 113, 100]⟩ : ByteArray)] from (k118_mkM _ _ _ (⟨2147483656, (⟨#[98, 108, 111, 99, 107, 45, 115, 105, 122, 101, 45, 114, 101, 113, 100]⟩ : ByteArray)⟩ : S118) )) (Reps.c2 (show Kd.M k118 _ _ _ (⟨2147483657, (⟨#[116, 111, 111, 45, 98, 105, 103]⟩ : ByteArray)⟩ : S118) [.int .u32 2147483657, .string (⟨#[116, 111, 111, 45, 98, 105, 103]⟩ : ByteArray)] from (k118_mkM _ _ _ (⟨2147483657, (⟨#[116, 111, 111, 45, 98, 105, 103]⟩ : ByteArray)⟩ : S118) )) (Reps.c2 (show Kd.M k118 _ _ _ (⟨2147483658, (⟨#[101, 120, 116, 45, 104, 101, 97, 100, 101, 114, 45, 114, 101, 113, 100]⟩ : ByteArray)⟩ : S118) [.int .u32 2147483658, .string (⟨#[101, 120, 116, 45, 104, 101, 97, 100, 101, 114, 45, 114, 101, 113, 100]⟩ : ByteArray)] from (k118_mkM _ _ _ (⟨2147483658, (⟨#[101, 120, 116, 45, 104, 101, 97, 100, 101, 114, 45, 114, 101, 113, 100]⟩ : ByteArray)⟩ : S118) )) (Reps.none _ _)))))))))))))))); intro v105 w6 ho7 hb hg_ hnew_; clear hg_ hnew_; (first | rw [← Ny104.out] at ho7 | (simp only [Int.reduceToNat] at ho7; rw [← Ny104.out] at ho7)); have n0_ := Aside0.mk (Kd.R_lower ho7 (below_size (by repeat (first | (with_reducible first | exact HB.out | apply below_alloc | apply pw_below_drewN | apply below_drew1) | exact HB.out)))); have n1_ := Aside0.mk (below_step (by repeat (first | (with_reducible first | exact HB.out | apply below_alloc | apply pw_below_drewN | apply below_drew1) | exact HB.out)) hb); clear HB; have HO106 := n0_; have HB := n1_; clear n0_ n1_; clear hb ho7))
      go_ret
      exact ⟨_, by first | rfl | (simp [errW_none, errW_some] <;> rfl) | (simp [*, errW_none, errW_some] <;> rfl) | (exfalso; simp_all; done), by (with_reducible repeat (first | apply Kd.R_alloc | apply Kd.R_drewN | apply Kd.R_drew)); exact HO106.out, by repeat (first | (with_reducible first | exact HB.out | apply below_alloc | apply pw_below_drewN | apply below_drew1) | exact HB.out)⟩
    · rw [if_neg c5] at H
      have c5b0 : (a0 == 2) = false := beq_eq_false_iff_ne.mpr c5
      have c5b1 : (a0 != 2) = true := bne_iff_ne.mpr c5
      by_cases c8 : a0 = 3
      · rw [if_pos c8] at H
        have c8b0 : (a0 == 3) = true := beq_iff_eq.mpr c8
        have c8b1 : (a0 != 3) = false := bne_eq_false_iff_eq.mpr c8
        clear c8
        obtain ⟨y107, hy107⟩ : ∃ y_ : List (S118), y_ = (([(⟨0, (⟨#[101, 120, 112, 111, 114, 116]⟩ : ByteArray)⟩ : S118), (⟨1, (⟨#[110, 97, 109, 101]⟩ : ByteArray)⟩ : S118), (⟨2, (⟨#[100, 101, 115, 99, 114, 105, 112, 116, 105, 111, 110]⟩ : ByteArray)⟩ : S118), (⟨3, (⟨#[98, 108, 111, 99, 107, 45, 115, 105, 122, 101]⟩ : ByteArray)⟩ : S118)] : List (S118))) := ⟨_, rfl⟩
        replace H : (some y107) = some r := by first | (rw [hy107]; with_reducible exact H) | (have H2_ := (Option.bind_some _ _).symm.trans H; rw [hy107]; with_reducible exact H2_) | (have H2_ := (Option.bind_some _ _).symm.trans H; with_reducible exact H2_) | with_reducible exact H | (rw [hy107]; exact H) | exact H
        have Ny107 := Aside0.mk hy107
        clear hy107
        obtain rfl := Option.some.inj H
        go_enter Try.func62, Try.ntmps62
        go_wp2_with (first | ((with_reducible refine gate_dst (N := 40) rfl ?_); refine Kd.R_lit k118 _ 118 ?hg (N := 40) ?hd (xs := ([(⟨0, (⟨#[101, 120, 112, 111, 114, 116]⟩ : ByteArray)⟩ : S118), (⟨1, (⟨#[110, 97, 109, 101]⟩ : ByteArray)⟩ : S118), (⟨2, (⟨#[100, 101, 115, 99, 114, 105, 112, 116, 105, 111, 110]⟩ : ByteArray)⟩ : S118), (⟨3, (⟨#[98, 108, 111, 99, 107, 45, 115, 105, 122, 101]⟩ : ByteArray)⟩ : S118)] : List (S118))) (inner := [.int .u32 0, .string (⟨#[101, 120, 112, 111, 114, 116]⟩ : ByteArray), .int .u32 1, .string (⟨#[110, 97, 109, 101]⟩ : ByteArray), .int .u32 2, .string (⟨#[100, 101, 115, 99, 114, 105, 112, 116, 105, 111, 110]⟩ : ByteArray), .int .u32 3, .string (⟨#[98, 108, 111, 99, 107, 45, 115, 105, 122, 101]⟩ : ByteArray)]) (ok := fun _ => True) (okp := fun _ => True) ?hr ?hp (fun _ hk => hk) trivial (Below.refl _ _) (Nat.le_refl _) (by simp) ?_; (case hd => rfl); (case hg => rfl); (case hr => first | (go_simp; done) | (go_simp; rfl)); (case hp => exact (Reps.c2 (show Kd.M k118 _ _ _ (⟨0, (⟨#[101, 120, 112, 111, 114, 116]⟩ : ByteArray)⟩ : S118) [.int .u32 0, .string (⟨#[101, 120, 112, 111, 114, 116]⟩ : ByteArray)] from (k118_mkM _ _ _ (⟨0, (⟨#[101, 120, 112, 111, 114, 116]⟩ : ByteArray)⟩ : S118) )) (Reps.c2 (show Kd.M k118 _ _ _ (⟨1, (⟨#[110, 97, 109, 101]⟩ : ByteArray)⟩ : S118) [.int .u32 1, .string (⟨#[110, 97, 109, 101]⟩ : ByteArray)] from (k118_mkM _ _ _ (⟨1, (⟨#[110, 97, 109, 101]⟩ : ByteArray)⟩ : S118) )) (Reps.c2 (show Kd.M k118 _ _ _ (⟨2, (⟨#[100, 101, 115, 99, 114, 105, 112, 116, 105, 111, 110]⟩ : ByteArray)⟩ : S118) [.int .u32 2, .string (⟨#[100, 101, 115, 99, 114, 105, 112, 116, 105, 111, 110]⟩ : ByteArray)] from (k118_mkM _ _ _ (⟨2, (⟨#[100, 101, 115, 99, 114, 105, 112, 116, 105, 111, 110]⟩ : ByteArray)⟩ : S118) )) (Reps.c2 (show Kd.M k118 _ _ _ (⟨3, (⟨#[98, 108, 111, 99, 107, 45, 115, 105, 122, 101]⟩ : ByteArray)⟩ : S118) [.int .u32 3, .string (⟨#[98, 108, 111, 99, 107, 45, 115, 105, 122, 101]⟩ : ByteArray)] from (k118_mkM _ _ _ (⟨3, (⟨#[98, 108, 111, 99, 107, 45, 115, 105, 122, 101]⟩ : ByteArray)⟩ : S118) )) (Reps.none _ _)))))); intro v108 w9 ho10 hb hg_ hnew_; clear hg_ hnew_; (first | rw [← Ny107.out] at ho10 | (simp only [Int.reduceToNat] at ho10; rw [← Ny107.out] at ho10)); have n0_ := Aside0.mk (Kd.R_lower ho10 (below_size (by repeat (first | (with_reducible first | exact HB.out | apply below_alloc | apply pw_below_drewN | apply below_drew1) | exact HB.out)))); have n1_ := Aside0.mk (below_step (by repeat (first | (with_reducible first | exact HB.out | apply below_alloc | apply pw_below_drewN | apply below_drew1) | exact HB.out)) hb); clear HB; have HO109 := n0_; have HB := n1_; clear n0_ n1_; clear hb ho10))
        go_ret
        exact ⟨_, by first | rfl | (simp [errW_none, errW_some] <;> rfl) | (simp [*, errW_none, errW_some] <;> rfl) | (exfalso; simp_all; done), by (with_reducible repeat (first | apply Kd.R_alloc | apply Kd.R_drewN | apply Kd.R_drew)); exact HO109.out, by repeat (first | (with_reducible first | exact HB.out | apply below_alloc | apply pw_below_drewN | apply below_drew1) | exact HB.out)⟩
      · rw [if_neg c8] at H
        have c8b0 : (a0 == 3) = false := beq_eq_false_iff_ne.mpr c8
        have c8b1 : (a0 != 3) = true := bne_iff_ne.mpr c8
        by_cases c11 : a0 = 4
        · rw [if_pos c11] at H
          have c11b0 : (a0 == 4) = true := beq_iff_eq.mpr c11
          have c11b1 : (a0 != 4) = false := bne_eq_false_iff_eq.mpr c11
          clear c11
          obtain ⟨y110, hy110⟩ : ∃ y_ : List (S118), y_ = (([(⟨0, (⟨#[114, 101, 97, 100]⟩ : ByteArray)⟩ : S118), (⟨1, (⟨#[119, 114, 105, 116, 101]⟩ : ByteArray)⟩ : S118), (⟨2, (⟨#[100, 105, 115, 99]⟩ : ByteArray)⟩ : S118), (⟨3, (⟨#[102, 108, 117, 115, 104]⟩ : ByteArray)⟩ : S118), (⟨4, (⟨#[116, 114, 105, 109]⟩ : ByteArray)⟩ : S118), (⟨5, (⟨#[99, 97, 99, 104, 101]⟩ : ByteArray)⟩ : S118), (⟨6, (⟨#[119, 114, 105, 116, 101, 45, 122, 101, 114, 111, 101, 115]⟩ : ByteArray)⟩ : S118), (⟨7, (⟨#[98, 108, 111, 99, 107, 45, 115, 116, 97, 116, 117, 115]⟩ : ByteArray)⟩ : S118)] : List (S118))) := ⟨_, rfl⟩
          replace H : (some y110) = some r := by first | (rw [hy110]; with_reducible exact H) | (have H2_ := (Option.bind_some _ _).symm.trans H; rw [hy110]; with_reducible exact H2_) | (have H2_ := (Option.bind_some _ _).symm.trans H; with_reducible exact H2_) | with_reducible exact H | (rw [hy110]; exact H) | exact H
          have Ny110 := Aside0.mk hy110
          clear hy110
          obtain rfl := Option.some.inj H
          go_enter Try.func62, Try.ntmps62
          go_wp2_with (first | ((with_reducible refine gate_dst (N := 51) rfl ?_); refine Kd.R_lit k118 _ 118 ?hg (N := 51) ?hd (xs := ([(⟨0, (⟨#[114, 101, 97, 100]⟩ : ByteArray)⟩ : S118), (⟨1, (⟨#[119, 114, 105, 116, 101]⟩ : ByteArray)⟩ : S118), (⟨2, (⟨#[100, 105, 115, 99]⟩ : ByteArray)⟩ : S118), (⟨3, (⟨#[102, 108, 117, 115, 104]⟩ : ByteArray)⟩ : S118), (⟨4, (⟨#[116, 114, 105, 109]⟩ : ByteArray)⟩ : S118), (⟨5, (⟨#[99, 97, 99, 104, 101]⟩ : ByteArray)⟩ : S118), (⟨6, (⟨#[119, 114, 105, 116, 101, 45, 122, 101, 114, 111, 101, 115]⟩ : ByteArray)⟩ : S118), (⟨7, (⟨#[98, 108, 111, 99, 107, 45, 115, 116, 97, 116, 117, 115]⟩ : ByteArray)⟩ : S118)] : List (S118))) (inner := [.int .u32 0, .string (⟨#[114, 101, 97, 100]⟩ : ByteArray), .int .u32 1, .string (⟨#[119, 114, 105, 116, 101]⟩ : ByteArray), .int .u32 2, .string (⟨#[100, 105, 115, 99]⟩ : ByteArray), .int .u32 3, .string (⟨#[102, 108, 117, 115, 104]⟩ : ByteArray), .int .u32 4, .string (⟨#[116, 114, 105, 109]⟩ : ByteArray), .int .u32 5, .string (⟨#[99, 97, 99, 104, 101]⟩ : ByteArray), .int .u32 6, .string (⟨#[119, 114, 105, 116, 101, 45, 122, 101, 114, 111, 101, 115]⟩ : ByteArray), .int .u32 7, .string (⟨#[98, 108, 111, 99, 107, 45, 115, 116, 97, 116, 117, 115]⟩ : ByteArray)]) (ok := fun _ => True) (okp := fun _ => True) ?hr ?hp (fun _ hk => hk) trivial (Below.refl _ _) (Nat.le_refl _) (by simp) ?_; (case hd => rfl); (case hg => rfl); (case hr => first | (go_simp; done) | (go_simp; rfl)); (case hp => exact (Reps.c2 (show Kd.M k118 _ _ _ (⟨0, (⟨#[114, 101, 97, 100]⟩ : ByteArray)⟩ : S118) [.int .u32 0, .string (⟨#[114, 101, 97, 100]⟩ : ByteArray)] from (k118_mkM _ _ _ (⟨0, (⟨#[114, 101, 97, 100]⟩ : ByteArray)⟩ : S118) )) (Reps.c2 (show Kd.M k118 _ _ _ (⟨1, (⟨#[119, 114, 105, 116, 101]⟩ : ByteArray)⟩ : S118) [.int .u32 1, .string (⟨#[119, 114, 105, 116, 101]⟩ : ByteArray)] from (k118_mkM _ _ _ (⟨1, (⟨#[119, 114, 105, 116, 101]⟩ : ByteArray)⟩ : S118) )) (Reps.c2 (show Kd.M k118 _ _ _ (⟨2, (⟨#[100, 105, 115, 99]⟩ : ByteArray)⟩ : S118) [.int .u32 2, .string (⟨#[100, 105, 115, 99]⟩ : ByteArray)] from (k118_mkM _ _ _ (⟨2, (⟨#[100, 105, 115, 99]⟩ : ByteArray)⟩ : S118) )) (Reps.c2 (show Kd.M k118 _ _ _ (⟨3, (⟨#[102, 108, 117, 115, 104]⟩ : ByteArray)⟩ : S118) [.int .u32 3, .string (⟨#[102, 108, 117, 115, 104]⟩ : ByteArray)] from (k118_mkM _ _ _ (⟨3, (⟨#[102, 108, 117, 115, 104]⟩ : ByteArray)⟩ : S118) )) (Reps.c2 (show Kd.M k118 _ _ _ (⟨4, (⟨#[116, 114, 105, 109]⟩ : ByteArray)⟩ : S118) [.int .u32 4, .string (⟨#[116, 114, 105, 109]⟩ : ByteArray)] from (k118_mkM _ _ _ (⟨4, (⟨#[116, 114, 105, 109]⟩ : ByteArray)⟩ : S118) )) (Reps.c2 (show Kd.M k118 _ _ _ (⟨5, (⟨#[99, 97, 99, 104, 101]⟩ : ByteArray)⟩ : S118) [.int .u32 5, .string (⟨#[99, 97, 99, 104, 101]⟩ : ByteArray)] from (k118_mkM _ _ _ (⟨5, (⟨#[99, 97, 99, 104, 101]⟩ : ByteArray)⟩ : S118) )) (Reps.c2 (show Kd.M k118 _ _ _ (⟨6, (⟨#[119, 114, 105, 116, 101, 45, 122, 101, 114, 111, 101, 115]⟩ : ByteArray)⟩ : S118) [.int .u32 6, .string (⟨#[119, 114, 105, 116, 101, 45, 122, 101, 114, 111, 101, 115]⟩ : ByteArray)] from (k118_mkM _ _ _ (⟨6, (⟨#[119, 114, 105, 116, 101, 45, 122, 101, 114, 111, 101, 115]⟩ : ByteArray)⟩ : S118) )) (Reps.c2 (show Kd.M k118 _ _ _ (⟨7, (⟨#[98, 108, 111, 99, 107, 45, 115, 116, 97, 116, 117, 115]⟩ : ByteArray)⟩ : S118) [.int .u32 7, .string (⟨#[98, 108, 111, 99, 107, 45, 115, 116, 97, 116, 117, 115]⟩ : ByteArray)] from (k118_mkM _ _ _ (⟨7, (⟨#[98, 108, 111, 99, 107, 45, 115, 116, 97, 116, 117, 115]⟩ : ByteArray)⟩ : S118) )) (Reps.none _ _)))))))))); intro v111 w12 ho13 hb hg_ hnew_; clear hg_ hnew_; (first | rw [← Ny110.out] at ho13 | (simp only [Int.reduceToNat] at ho13; rw [← Ny110.out] at ho13)); have n0_ := Aside0.mk (Kd.R_lower ho13 (below_size (by repeat (first | (with_reducible first | exact HB.out | apply below_alloc | apply pw_below_drewN | apply below_drew1) | exact HB.out)))); have n1_ := Aside0.mk (below_step (by repeat (first | (with_reducible first | exact HB.out | apply below_alloc | apply pw_below_drewN | apply below_drew1) | exact HB.out)) hb); clear HB; have HO112 := n0_; have HB := n1_; clear n0_ n1_; clear hb ho13))
          go_ret
          exact ⟨_, by first | rfl | (simp [errW_none, errW_some] <;> rfl) | (simp [*, errW_none, errW_some] <;> rfl) | (exfalso; simp_all; done), by (with_reducible repeat (first | apply Kd.R_alloc | apply Kd.R_drewN | apply Kd.R_drew)); exact HO112.out, by repeat (first | (with_reducible first | exact HB.out | apply below_alloc | apply pw_below_drewN | apply below_drew1) | exact HB.out)⟩
        · rw [if_neg c11] at H
          have c11b0 : (a0 == 4) = false := beq_eq_false_iff_ne.mpr c11
          have c11b1 : (a0 != 4) = true := bne_iff_ne.mpr c11
          by_cases c14 : a0 = 5
          · rw [if_pos c14] at H
            have c14b0 : (a0 == 5) = true := beq_iff_eq.mpr c14
            have c14b1 : (a0 != 5) = false := bne_eq_false_iff_eq.mpr c14
            clear c14
            obtain ⟨y113, hy113⟩ : ∃ y_ : List (S118), y_ = (([(⟨0, (⟨#[110, 111, 110, 101]⟩ : ByteArray)⟩ : S118), (⟨1, (⟨#[100, 97, 116, 97]⟩ : ByteArray)⟩ : S118), (⟨2, (⟨#[104, 111, 108, 101]⟩ : ByteArray)⟩ : S118), (⟨5, (⟨#[115, 116, 97, 116, 117, 115]⟩ : ByteArray)⟩ : S118), (⟨6, (⟨#[115, 116, 97, 116, 117, 115, 45, 54, 52]⟩ : ByteArray)⟩ : S118), (⟨32769, (⟨#[101, 114, 114, 111, 114]⟩ : ByteArray)⟩ : S118), (⟨32770, (⟨#[101, 114, 114, 111, 114, 45, 97, 116]⟩ : ByteArray)⟩ : S118)] : List (S118))) := ⟨_, rfl⟩
            replace H : (some y113) = some r := by first | (rw [hy113]; with_reducible exact H) | (have H2_ := (Option.bind_some _ _).symm.trans H; rw [hy113]; with_reducible exact H2_) | (have H2_ := (Option.bind_some _ _).symm.trans H; with_reducible exact H2_) | with_reducible exact H | (rw [hy113]; exact H) | exact H
            have Ny113 := Aside0.mk hy113
            clear hy113
            obtain rfl := Option.some.inj H
            go_enter Try.func62, Try.ntmps62
            go_wp2_with (first | ((with_reducible refine gate_dst (N := 61) rfl ?_); refine Kd.R_lit k118 _ 118 ?hg (N := 61) ?hd (xs := ([(⟨0, (⟨#[110, 111, 110, 101]⟩ : ByteArray)⟩ : S118), (⟨1, (⟨#[100, 97, 116, 97]⟩ : ByteArray)⟩ : S118), (⟨2, (⟨#[104, 111, 108, 101]⟩ : ByteArray)⟩ : S118), (⟨5, (⟨#[115, 116, 97, 116, 117, 115]⟩ : ByteArray)⟩ : S118), (⟨6, (⟨#[115, 116, 97, 116, 117, 115, 45, 54, 52]⟩ : ByteArray)⟩ : S118), (⟨32769, (⟨#[101, 114, 114, 111, 114]⟩ : ByteArray)⟩ : S118), (⟨32770, (⟨#[101, 114, 114, 111, 114, 45, 97, 116]⟩ : ByteArray)⟩ : S118)] : List (S118))) (inner := [.int .u32 0, .string (⟨#[110, 111, 110, 101]⟩ : ByteArray), .int .u32 1, .string (⟨#[100, 97, 116, 97]⟩ : ByteArray), .int .u32 2, .string (⟨#[104, 111, 108, 101]⟩ : ByteArray), .int .u32 5, .string (⟨#[115, 116, 97, 116, 117, 115]⟩ : ByteArray), .int .u32 6, .string (⟨#[115, 116, 97, 116, 117, 115, 45, 54, 52]⟩ : ByteArray), .int .u32 32769, .string (⟨#[101, 114, 114, 111, 114]⟩ : ByteArray), .int .u32 32770, .string (⟨#[101, 114, 114, 111, 114, 45, 97, 116]⟩ : ByteArray)]) (ok := fun _ => True) (okp := fun _ => True) ?hr ?hp (fun _ hk => hk) trivial (Below.refl _ _) (Nat.le_refl _) (by simp) ?_; (case hd => rfl); (case hg => rfl); (case hr => first | (go_simp; done) | (go_simp; rfl)); (case hp => exact (Reps.c2 (show Kd.M k118 _ _ _ (⟨0, (⟨#[110, 111, 110, 101]⟩ : ByteArray)⟩ : S118) [.int .u32 0, .string (⟨#[110, 111, 110, 101]⟩ : ByteArray)] from (k118_mkM _ _ _ (⟨0, (⟨#[110, 111, 110, 101]⟩ : ByteArray)⟩ : S118) )) (Reps.c2 (show Kd.M k118 _ _ _ (⟨1, (⟨#[100, 97, 116, 97]⟩ : ByteArray)⟩ : S118) [.int .u32 1, .string (⟨#[100, 97, 116, 97]⟩ : ByteArray)] from (k118_mkM _ _ _ (⟨1, (⟨#[100, 97, 116, 97]⟩ : ByteArray)⟩ : S118) )) (Reps.c2 (show Kd.M k118 _ _ _ (⟨2, (⟨#[104, 111, 108, 101]⟩ : ByteArray)⟩ : S118) [.int .u32 2, .string (⟨#[104, 111, 108, 101]⟩ : ByteArray)] from (k118_mkM _ _ _ (⟨2, (⟨#[104, 111, 108, 101]⟩ : ByteArray)⟩ : S118) )) (Reps.c2 (show Kd.M k118 _ _ _ (⟨5, (⟨#[115, 116, 97, 116, 117, 115]⟩ : ByteArray)⟩ : S118) [.int .u32 5, .string (⟨#[115, 116, 97, 116, 117, 115]⟩ : ByteArray)] from (k118_mkM _ _ _ (⟨5, (⟨#[115, 116, 97, 116, 117, 115]⟩ : ByteArray)⟩ : S118) )) (Reps.c2 (show Kd.M k118 _ _ _ (⟨6, (⟨#[115, 116, 97, 116, 117, 115, 45, 54, 52]⟩ : ByteArray)⟩ : S118) [.int .u32 6, .string (⟨#[115, 116, 97, 116, 117, 115, 45, 54, 52]⟩ : ByteArray)] from (k118_mkM _ _ _ (⟨6, (⟨#[115, 116, 97, 116, 117, 115, 45, 54, 52]⟩ : ByteArray)⟩ : S118) )) (Reps.c2 (show Kd.M k118 _ _ _ (⟨32769, (⟨#[101, 114, 114, 111, 114]⟩ : ByteArray)⟩ : S118) [.int .u32 32769, .string (⟨#[101, 114, 114, 111, 114]⟩ : ByteArray)] from (k118_mkM _ _ _ (⟨32769, (⟨#[101, 114, 114, 111, 114]⟩ : ByteArray)⟩ : S118) )) (Reps.c2 (show Kd.M k118 _ _ _ (⟨32770, (⟨#[101, 114, 114, 111, 114, 45, 97, 116]⟩ : ByteArray)⟩ : S118) [.int .u32 32770, .string (⟨#[101, 114, 114, 111, 114, 45, 97, 116]⟩ : ByteArray)] from (k118_mkM _ _ _ (⟨32770, (⟨#[101, 114, 114, 111, 114, 45, 97, 116]⟩ : ByteArray)⟩ : S118) )) (Reps.none _ _))))))))); intro v114 w15 ho16 hb hg_ hnew_; clear hg_ hnew_; (first | rw [← Ny113.out] at ho16 | (simp only [Int.reduceToNat] at ho16; rw [← Ny113.out] at ho16)); have n0_ := Aside0.mk (Kd.R_lower ho16 (below_size (by repeat (first | (with_reducible first | exact HB.out | apply below_alloc | apply pw_below_drewN | apply below_drew1) | exact HB.out)))); have n1_ := Aside0.mk (below_step (by repeat (first | (with_reducible first | exact HB.out | apply below_alloc | apply pw_below_drewN | apply below_drew1) | exact HB.out)) hb); clear HB; have HO115 := n0_; have HB := n1_; clear n0_ n1_; clear hb ho16))
            go_ret
            exact ⟨_, by first | rfl | (simp [errW_none, errW_some] <;> rfl) | (simp [*, errW_none, errW_some] <;> rfl) | (exfalso; simp_all; done), by (with_reducible repeat (first | apply Kd.R_alloc | apply Kd.R_drewN | apply Kd.R_drew)); exact HO115.out, by repeat (first | (with_reducible first | exact HB.out | apply below_alloc | apply pw_below_drewN | apply below_drew1) | exact HB.out)⟩
          · rw [if_neg c14] at H
            have c14b0 : (a0 == 5) = false := beq_eq_false_iff_ne.mpr c14
            have c14b1 : (a0 != 5) = true := bne_iff_ne.mpr c14
            by_cases c17 : a0 = 6
            · rw [if_pos c17] at H
              have c17b0 : (a0 == 6) = true := beq_iff_eq.mpr c17
              have c17b1 : (a0 != 6) = false := bne_eq_false_iff_eq.mpr c17
              clear c17
              obtain ⟨y116, hy116⟩ : ∃ y_ : List (S118), y_ = (([(⟨0, (⟨#[111, 107]⟩ : ByteArray)⟩ : S118), (⟨1, (⟨#[101, 112, 101, 114, 109]⟩ : ByteArray)⟩ : S118), (⟨5, (⟨#[101, 105, 111]⟩ : ByteArray)⟩ : S118), (⟨12, (⟨#[101, 110, 111, 109, 101, 109]⟩ : ByteArray)⟩ : S118), (⟨22, (⟨#[101, 105, 110, 118, 97, 108]⟩ : ByteArray)⟩ : S118), (⟨28, (⟨#[101, 110, 111, 115, 112, 99]⟩ : ByteArray)⟩ : S118), (⟨75, (⟨#[101, 111, 118, 101, 114, 102, 108, 111, 119]⟩ : ByteArray)⟩ : S118), (⟨95, (⟨#[101, 110, 111, 116, 115, 117, 112]⟩ : ByteArray)⟩ : S118), (⟨108, (⟨#[101, 115, 104, 117, 116, 100, 111, 119, 110]⟩ : ByteArray)⟩ : S118)] : List (S118))) := ⟨_, rfl⟩
              replace H : (some y116) = some r := by first | (rw [hy116]; with_reducible exact H) | (have H2_ := (Option.bind_some _ _).symm.trans H; rw [hy116]; with_reducible exact H2_) | (have H2_ := (Option.bind_some _ _).symm.trans H; with_reducible exact H2_) | with_reducible exact H | (rw [hy116]; exact H) | exact H
              have Ny116 := Aside0.mk hy116
              clear hy116
              obtain rfl := Option.some.inj H
              go_enter Try.func62, Try.ntmps62
              go_wp2_with (first | ((with_reducible refine gate_dst (N := 73) rfl ?_); refine Kd.R_lit k118 _ 118 ?hg (N := 73) ?hd (xs := ([(⟨0, (⟨#[111, 107]⟩ : ByteArray)⟩ : S118), (⟨1, (⟨#[101, 112, 101, 114, 109]⟩ : ByteArray)⟩ : S118), (⟨5, (⟨#[101, 105, 111]⟩ : ByteArray)⟩ : S118), (⟨12, (⟨#[101, 110, 111, 109, 101, 109]⟩ : ByteArray)⟩ : S118), (⟨22, (⟨#[101, 105, 110, 118, 97, 108]⟩ : ByteArray)⟩ : S118), (⟨28, (⟨#[101, 110, 111, 115, 112, 99]⟩ : ByteArray)⟩ : S118), (⟨75, (⟨#[101, 111, 118, 101, 114, 102, 108, 111, 119]⟩ : ByteArray)⟩ : S118), (⟨95, (⟨#[101, 110, 111, 116, 115, 117, 112]⟩ : ByteArray)⟩ : S118), (⟨108, (⟨#[101, 115, 104, 117, 116, 100, 111, 119, 110]⟩ : ByteArray)⟩ : S118)] : List (S118))) (inner := [.int .u32 0, .string (⟨#[111, 107]⟩ : ByteArray), .int .u32 1, .string (⟨#[101, 112, 101, 114, 109]⟩ : ByteArray), .int .u32 5, .string (⟨#[101, 105, 111]⟩ : ByteArray), .int .u32 12, .string (⟨#[101, 110, 111, 109, 101, 109]⟩ : ByteArray), .int .u32 22, .string (⟨#[101, 105, 110, 118, 97, 108]⟩ : ByteArray), .int .u32 28, .string (⟨#[101, 110, 111, 115, 112, 99]⟩ : ByteArray), .int .u32 75, .string (⟨#[101, 111, 118, 101, 114, 102, 108, 111, 119]⟩ : ByteArray), .int .u32 95, .string (⟨#[101, 110, 111, 116, 115, 117, 112]⟩ : ByteArray), .int .u32 108, .string (⟨#[101, 115, 104, 117, 116, 100, 111, 119, 110]⟩ : ByteArray)]) (ok := fun _ => True) (okp := fun _ => True) ?hr ?hp (fun _ hk => hk) trivial (Below.refl _ _) (Nat.le_refl _) (by simp) ?_; (case hd => rfl); (case hg => rfl); (case hr => first | (go_simp; done) | (go_simp; rfl)); (case hp => exact (Reps.c2 (show Kd.M k118 _ _ _ (⟨0, (⟨#[111, 107]⟩ : ByteArray)⟩ : S118) [.int .u32 0, .string (⟨#[111, 107]⟩ : ByteArray)] from (k118_mkM _ _ _ (⟨0, (⟨#[111, 107]⟩ : ByteArray)⟩ : S118) )) (Reps.c2 (show Kd.M k118 _ _ _ (⟨1, (⟨#[101, 112, 101, 114, 109]⟩ : ByteArray)⟩ : S118) [.int .u32 1, .string (⟨#[101, 112, 101, 114, 109]⟩ : ByteArray)] from (k118_mkM _ _ _ (⟨1, (⟨#[101, 112, 101, 114, 109]⟩ : ByteArray)⟩ : S118) )) (Reps.c2 (show Kd.M k118 _ _ _ (⟨5, (⟨#[101, 105, 111]⟩ : ByteArray)⟩ : S118) [.int .u32 5, .string (⟨#[101, 105, 111]⟩ : ByteArray)] from (k118_mkM _ _ _ (⟨5, (⟨#[101, 105, 111]⟩ : ByteArray)⟩ : S118) )) (Reps.c2 (show Kd.M k118 _ _ _ (⟨12, (⟨#[101, 110, 111, 109, 101, 109]⟩ : ByteArray)⟩ : S118) [.int .u32 12, .string (⟨#[101, 110, 111, 109, 101, 109]⟩ : ByteArray)] from (k118_mkM _ _ _ (⟨12, (⟨#[101, 110, 111, 109, 101, 109]⟩ : ByteArray)⟩ : S118) )) (Reps.c2 (show Kd.M k118 _ _ _ (⟨22, (⟨#[101, 105, 110, 118, 97, 108]⟩ : ByteArray)⟩ : S118) [.int .u32 22, .string (⟨#[101, 105, 110, 118, 97, 108]⟩ : ByteArray)] from (k118_mkM _ _ _ (⟨22, (⟨#[101, 105, 110, 118, 97, 108]⟩ : ByteArray)⟩ : S118) )) (Reps.c2 (show Kd.M k118 _ _ _ (⟨28, (⟨#[101, 110, 111, 115, 112, 99]⟩ : ByteArray)⟩ : S118) [.int .u32 28, .string (⟨#[101, 110, 111, 115, 112, 99]⟩ : ByteArray)] from (k118_mkM _ _ _ (⟨28, (⟨#[101, 110, 111, 115, 112, 99]⟩ : ByteArray)⟩ : S118) )) (Reps.c2 (show Kd.M k118 _ _ _ (⟨75, (⟨#[101, 111, 118, 101, 114, 102, 108, 111, 119]⟩ : ByteArray)⟩ : S118) [.int .u32 75, .string (⟨#[101, 111, 118, 101, 114, 102, 108, 111, 119]⟩ : ByteArray)] from (k118_mkM _ _ _ (⟨75, (⟨#[101, 111, 118, 101, 114, 102, 108, 111, 119]⟩ : ByteArray)⟩ : S118) )) (Reps.c2 (show Kd.M k118 _ _ _ (⟨95, (⟨#[101, 110, 111, 116, 115, 117, 112]⟩ : ByteArray)⟩ : S118) [.int .u32 95, .string (⟨#[101, 110, 111, 116, 115, 117, 112]⟩ : ByteArray)] from (k118_mkM _ _ _ (⟨95, (⟨#[101, 110, 111, 116, 115, 117, 112]⟩ : ByteArray)⟩ : S118) )) (Reps.c2 (show Kd.M k118 _ _ _ (⟨108, (⟨#[101, 115, 104, 117, 116, 100, 111, 119, 110]⟩ : ByteArray)⟩ : S118) [.int .u32 108, .string (⟨#[101, 115, 104, 117, 116, 100, 111, 119, 110]⟩ : ByteArray)] from (k118_mkM _ _ _ (⟨108, (⟨#[101, 115, 104, 117, 116, 100, 111, 119, 110]⟩ : ByteArray)⟩ : S118) )) (Reps.none _ _))))))))))); intro v117 w18 ho19 hb hg_ hnew_; clear hg_ hnew_; (first | rw [← Ny116.out] at ho19 | (simp only [Int.reduceToNat] at ho19; rw [← Ny116.out] at ho19)); have n0_ := Aside0.mk (Kd.R_lower ho19 (below_size (by repeat (first | (with_reducible first | exact HB.out | apply below_alloc | apply pw_below_drewN | apply below_drew1) | exact HB.out)))); have n1_ := Aside0.mk (below_step (by repeat (first | (with_reducible first | exact HB.out | apply below_alloc | apply pw_below_drewN | apply below_drew1) | exact HB.out)) hb); clear HB; have HO118 := n0_; have HB := n1_; clear n0_ n1_; clear hb ho19))
              go_ret
              exact ⟨_, by first | rfl | (simp [errW_none, errW_some] <;> rfl) | (simp [*, errW_none, errW_some] <;> rfl) | (exfalso; simp_all; done), by (with_reducible repeat (first | apply Kd.R_alloc | apply Kd.R_drewN | apply Kd.R_drew)); exact HO118.out, by repeat (first | (with_reducible first | exact HB.out | apply below_alloc | apply pw_below_drewN | apply below_drew1) | exact HB.out)⟩
            · rw [if_neg c17] at H
              have c17b0 : (a0 == 6) = false := beq_eq_false_iff_ne.mpr c17
              have c17b1 : (a0 != 6) = true := bne_iff_ne.mpr c17
              by_cases c20 : a0 = 7
              · rw [if_pos c20] at H
                have c20b0 : (a0 == 7) = true := beq_iff_eq.mpr c20
                have c20b1 : (a0 != 7) = false := bne_eq_false_iff_eq.mpr c20
                clear c20
                obtain ⟨y119, hy119⟩ : ∃ y_ : List (S118), y_ = (([(⟨1, (⟨#[98, 97, 115, 101, 58, 97, 108, 108, 111, 99, 97, 116, 105, 111, 110]⟩ : ByteArray)⟩ : S118), (⟨2, (⟨#[115, 112, 105, 110, 100, 108, 101, 58, 117, 110, 115, 97, 118, 101, 100]⟩ : ByteArray)⟩ : S118), (⟨3, (⟨#[115, 112, 105, 110, 100, 108, 101, 58, 100, 105, 114, 116, 121]⟩ : ByteArray)⟩ : S118)] : List (S118))) := ⟨_, rfl⟩
                replace H : (some y119) = some r := by first | (rw [hy119]; with_reducible exact H) | (have H2_ := (Option.bind_some _ _).symm.trans H; rw [hy119]; with_reducible exact H2_) | (have H2_ := (Option.bind_some _ _).symm.trans H; with_reducible exact H2_) | with_reducible exact H | (rw [hy119]; exact H) | exact H
                have Ny119 := Aside0.mk hy119
                clear hy119
                obtain rfl := Option.some.inj H
                go_enter Try.func62, Try.ntmps62
                go_wp2_with (first | ((with_reducible refine gate_dst (N := 79) rfl ?_); refine Kd.R_lit k118 _ 118 ?hg (N := 79) ?hd (xs := ([(⟨1, (⟨#[98, 97, 115, 101, 58, 97, 108, 108, 111, 99, 97, 116, 105, 111, 110]⟩ : ByteArray)⟩ : S118), (⟨2, (⟨#[115, 112, 105, 110, 100, 108, 101, 58, 117, 110, 115, 97, 118, 101, 100]⟩ : ByteArray)⟩ : S118), (⟨3, (⟨#[115, 112, 105, 110, 100, 108, 101, 58, 100, 105, 114, 116, 121]⟩ : ByteArray)⟩ : S118)] : List (S118))) (inner := [.int .u32 1, .string (⟨#[98, 97, 115, 101, 58, 97, 108, 108, 111, 99, 97, 116, 105, 111, 110]⟩ : ByteArray), .int .u32 2, .string (⟨#[115, 112, 105, 110, 100, 108, 101, 58, 117, 110, 115, 97, 118, 101, 100]⟩ : ByteArray), .int .u32 3, .string (⟨#[115, 112, 105, 110, 100, 108, 101, 58, 100, 105, 114, 116, 121]⟩ : ByteArray)]) (ok := fun _ => True) (okp := fun _ => True) ?hr ?hp (fun _ hk => hk) trivial (Below.refl _ _) (Nat.le_refl _) (by simp) ?_; (case hd => rfl); (case hg => rfl); (case hr => first | (go_simp; done) | (go_simp; rfl)); (case hp => exact (Reps.c2 (show Kd.M k118 _ _ _ (⟨1, (⟨#[98, 97, 115, 101, 58, 97, 108, 108, 111, 99, 97, 116, 105, 111, 110]⟩ : ByteArray)⟩ : S118) [.int .u32 1, .string (⟨#[98, 97, 115, 101, 58, 97, 108, 108, 111, 99, 97, 116, 105, 111, 110]⟩ : ByteArray)] from (k118_mkM _ _ _ (⟨1, (⟨#[98, 97, 115, 101, 58, 97, 108, 108, 111, 99, 97, 116, 105, 111, 110]⟩ : ByteArray)⟩ : S118) )) (Reps.c2 (show Kd.M k118 _ _ _ (⟨2, (⟨#[115, 112, 105, 110, 100, 108, 101, 58, 117, 110, 115, 97, 118, 101, 100]⟩ : ByteArray)⟩ : S118) [.int .u32 2, .string (⟨#[115, 112, 105, 110, 100, 108, 101, 58, 117, 110, 115, 97, 118, 101, 100]⟩ : ByteArray)] from (k118_mkM _ _ _ (⟨2, (⟨#[115, 112, 105, 110, 100, 108, 101, 58, 117, 110, 115, 97, 118, 101, 100]⟩ : ByteArray)⟩ : S118) )) (Reps.c2 (show Kd.M k118 _ _ _ (⟨3, (⟨#[115, 112, 105, 110, 100, 108, 101, 58, 100, 105, 114, 116, 121]⟩ : ByteArray)⟩ : S118) [.int .u32 3, .string (⟨#[115, 112, 105, 110, 100, 108, 101, 58, 100, 105, 114, 116, 121]⟩ : ByteArray)] from (k118_mkM _ _ _ (⟨3, (⟨#[115, 112, 105, 110, 100, 108, 101, 58, 100, 105, 114, 116, 121]⟩ : ByteArray)⟩ : S118) )) (Reps.none _ _))))); intro v120 w21 ho22 hb hg_ hnew_; clear hg_ hnew_; (first | rw [← Ny119.out] at ho22 | (simp only [Int.reduceToNat] at ho22; rw [← Ny119.out] at ho22)); have n0_ := Aside0.mk (Kd.R_lower ho22 (below_size (by repeat (first | (with_reducible first | exact HB.out | apply below_alloc | apply pw_below_drewN | apply below_drew1) | exact HB.out)))); have n1_ := Aside0.mk (below_step (by repeat (first | (with_reducible first | exact HB.out | apply below_alloc | apply pw_below_drewN | apply below_drew1) | exact HB.out)) hb); clear HB; have HO121 := n0_; have HB := n1_; clear n0_ n1_; clear hb ho22))
                go_ret
                exact ⟨_, by first | rfl | (simp [errW_none, errW_some] <;> rfl) | (simp [*, errW_none, errW_some] <;> rfl) | (exfalso; simp_all; done), by (with_reducible repeat (first | apply Kd.R_alloc | apply Kd.R_drewN | apply Kd.R_drew)); exact HO121.out, by repeat (first | (with_reducible first | exact HB.out | apply below_alloc | apply pw_below_drewN | apply below_drew1) | exact HB.out)⟩
              · rw [if_neg c20] at H
                have c20b0 : (a0 == 7) = false := beq_eq_false_iff_ne.mpr c20
                have c20b1 : (a0 != 7) = true := bne_iff_ne.mpr c20
                obtain rfl := Option.some.inj H
                go_enter Try.func62, Try.ntmps62
                go_wp2
                go_ret
                exact ⟨_, by first | rfl | (simp [errW_none, errW_some] <;> rfl) | (simp [*, errW_none, errW_some] <;> rfl) | (exfalso; simp_all; done), by first | exact Kd.R_nil _ _ _ _ _ | exact Kd.N_nil _ _ _ _ _ | exact Kd.V_nil _ _ _ _ _ | exact Kd.Q_nil _ _ _ _ _ | exact Kd.S_nil _ _ _ _ _, by repeat (first | (with_reducible first | exact HB.out | apply below_alloc | apply pw_below_drewN | apply below_drew1) | exact HB.out)⟩

/-! ### wire_Name: function 16 -/
def wire_Name.l0 : Nat → Int → List (S118) → Int → Int → Option (ByteArray)
  | 0, _, _, _, _ => none
  | k + 1, x1, x8, x9, x10 => if x10 < x9 then (if 0 ≤ x10 then (if x10 < (x8.length : Int) then (if ((rd_T118 x8 x10).f0) = x1 then (some ((rd_T118 x8 x10).f1)) else (wire_Name.l0 k x1 x8 x9 (wrap64 (x10 + 1)))) else (none)) else (none)) else (some (⟨#[]⟩ : ByteArray))
def wire_Name.f (k : Nat) (a0 : Int) (a1 : Int) : Option (ByteArray) := (wire_table.f a0).bind fun t122 => (wire_Name.l0 k a1 t122 (t122.length : Int) 0)
theorem wire_Name.mono_l : ∀ k, (∀ y0 y1 y2 y3, LeO (wire_Name.l0 k y0 y1 y2 y3) (wire_Name.l0 (k + 1) y0 y1 y2 y3))
  | 0 => fun _ _ _ _ r h => by simp [wire_Name.l0] at h
  | k + 1 => by
    have ih0 := wire_Name.mono_l k
    · intro y0 y1 y2 y3
      unfold wire_Name.l0
      repeat' first
      | (with_reducible exact ih0 _ _ _ _)
      | (with_reducible exact LeO.refl _)
      | (with_reducible exact LeO.none _)
      | (with_reducible refine LeO.ite ?_ ?_)
      | (with_reducible refine LeO.bind ?_ (fun _ => ?_))
      | exact ih0 _ _ _ _
      | exact LeO.none _
      | refine LeO.ite ?_ ?_
      | refine LeO.bind ?_ (fun _ => ?_)
theorem wire_Name.mono : ∀ a0 a1 k, LeO (wire_Name.f k a0 a1) (wire_Name.f (k + 1) a0 a1) := by
  intro a0 a1 k
  have ih0 := wire_Name.mono_l k
  unfold wire_Name.f
  repeat' first
      | (with_reducible exact ih0 _ _ _ _)
      | (with_reducible exact LeO.refl _)
      | (with_reducible exact LeO.none _)
      | (with_reducible refine LeO.ite ?_ ?_)
      | (with_reducible refine LeO.bind ?_ (fun _ => ?_))
      | exact ih0 _ _ _ _
      | exact LeO.none _
      | refine LeO.ite ?_ ?_
      | refine LeO.bind ?_ (fun _ => ?_)
set_option maxHeartbeats 8000000 in
set_option maxRecDepth 100000 in
theorem wire_Name.calls (k : Nat) (a0 : Int) (a1 : Int) (r : ByteArray) (w : World) (h : wire_Name.f k a0 a1 = some r) :
    Calls Try.prog 16 #[.int .i64 a0, .int .u32 a1] w fun e w' => e = .returned (.string r) ∧ Below w.heap.size w w' := by
  have hu118 := Try.underlying118
  have HB := Aside0.mk (Below.refl w.heap.size w)
  have H : ((wire_table.f a0).bind fun t122 => (wire_Name.l0 k a1 t122 (t122.length : Int) 0)) = some r := h
  clear h
  replace H := Option.bind_eq_some_iff.mp H
  obtain ⟨t122, A30, H⟩ := H
  replace H : (wire_Name.l0 k a1 t122 (t122.length : Int) 0) = some r := H
  have A3 := Aside0.mk A30
  clear A30
  have H' := Aside0.mk H
  clear H
  go_enter Try.func16, Try.ntmps16
  go_wp2_with (first | ((with_reducible refine gate_callee (f := 62) rfl ?_); refine goesL_ (some 8) rfl rfl Try.func62 (by kernel_rfl) rfl #[.int .i64 a0] rfl (by (try simp only [List.map_toArray, List.map_cons, List.map_nil]); first | done | rfl | (simp only [List.length_drop, List.length_take]; rfl)) ?_; (with_reducible refine (wire_table.calls a0 t122 _ A3.out).mono ?_); rintro e w4 ⟨v123, rfl, ho0, hb⟩; refine ⟨_, rfl, ?_⟩; have n0_ := Aside0.mk (Kd.R_lower ho0 (below_size (by repeat (first | (with_reducible first | exact HB.out | apply below_alloc | apply pw_below_drewN | apply below_drew1) | exact HB.out)))); have n1_ := Aside0.mk (below_step (by repeat (first | (with_reducible first | exact HB.out | apply below_alloc | apply pw_below_drewN | apply below_drew1) | exact HB.out)) hb); clear HB; have HO124 := n0_; have HB := n1_; clear n0_ n1_; (try clear hb); (try clear hb2); (try clear hk); (try clear hi); (try clear ho0); obtain ⟨Ao5, co5, eo5⟩ := Kd.R_slice HO124.out; subst eo5))
  go_loopg [10] k (fun kq v10 w' => ∃ (x10_1 : Int), v10 = .int .i64 x10_1 ∧ Aside0 (wire_Name.l0 kq a1 t122 (t122.length : Int) x10_1 = some r) ∧ Aside0 (kq ≤ k) ∧ Aside0 (Kd.R k118 118 w' w.heap.size (fun _ => True) (.slice Ao5 t122.length co5) t122) ∧ Aside0 (Below w.heap.size w w'))
  case atStart => exact ⟨(0), (by first | rfl | (simp; done) | (simp [*]; done)), H', ⟨Nat.le_refl _⟩, ⟨by (with_reducible repeat (first | apply Kd.R_alloc | apply Kd.R_drewN | apply Kd.R_drew)); exact HO124.out⟩, ⟨by repeat (first | (with_reducible first | exact HB.out | apply below_alloc | apply pw_below_drewN | apply below_drew1) | exact HB.out)⟩⟩
  case round =>
    clear H'
    try clear c1
    try clear p2
    obtain ⟨x10_1, rfl, HA, HK1, HO_8, HB⟩ := hrel
    cases gk with
    | zero => exact absurd HA.out (by simp [wire_Name.l0])
    | succ k1 =>
      have H := HA.out
      clear HA
      simp only [wire_Name.l0] at H
      by_cases c6 : x10_1 < (t122.length : Int)
      · rw [if_pos c6] at H
        have c6b0 : decide (x10_1 < (t122.length : Int)) = true := decide_eq_true c6
        clear c6
        by_cases c7 : 0 ≤ x10_1
        · rw [if_pos c7] at H
          have c7b0 : decide (0 ≤ x10_1) = true := decide_eq_true c7
          clear c7
          by_cases c8 : x10_1 < (t122.length : Int)
          · rw [if_pos c8] at H
            have c8b0 : decide (x10_1 < (t122.length : Int)) = true := decide_eq_true c8
            clear c8
            by_cases c9 : ((rd_T118 t122 x10_1).f0) = a1
            · rw [if_pos c9] at H
              have c9b0 : (((rd_T118 t122 x10_1).f0) == a1) = true := beq_iff_eq.mpr c9
              have c9b1 : (((rd_T118 t122 x10_1).f0) != a1) = false := bne_eq_false_iff_eq.mpr c9
              clear c9
              obtain rfl := Option.some.inj H
              have p125 : 0 ≤ (x10_1 : Int) := of_decide_eq_true (by first | (with_reducible assumption) | assumption)
              have q125 : x10_1 < (t122.length : Int) := of_decide_eq_true (by first | (with_reducible assumption) | assumption)
              obtain ⟨ad125, e125, hx125_0, hx125_1⟩ := at_T118 (Kd.R_reads' HO_8.out).2.2 x10_1 p125 q125
              cases e125
              replace p125 := eq_true p125
              replace q125 := eq_true q125
              go_wp2_with (first | ((with_reducible refine gate_dst (N := 6) rfl ?_); refine box_event ?hg (N := 6) ?hd (cs := #[.int .u32 0, .string (⟨#[]⟩ : ByteArray)]) (t := 118) ?hr ?_; (case hd => rfl); (case hg => rfl); (case hr => first | (go_simp; done) | (go_simp; rfl)); intro gb126 hg w10 hbox hb; have n0_ := Aside0.mk (Kd.R_below (Kd.R_elderB (by (with_reducible repeat (first | apply Kd.R_alloc | apply Kd.R_drewN | apply Kd.R_drew)); exact HO_8.out) gb126 (Nat.le_of_eq hg.symm)) hb); have n1_ := Aside0.mk (below_step (by repeat (first | (with_reducible first | exact HB.out | apply below_alloc | apply pw_below_drewN | apply below_drew1) | exact HB.out)) hb); have n2_ := Aside0.mk (hbox); have n3_ := Aside0.mk ((by rw [hg]; exact (below_size (by repeat (first | (with_reducible first | exact HB.out | apply below_alloc | apply pw_below_drewN | apply below_drew1) | exact HB.out))) : w.heap.size ≤ gb126)); have n4_ := Aside0.mk ((by rw [hg]; exact (below_size (by repeat (first | (with_reducible first | exact HB.out | apply below_alloc | apply pw_below_drewN | apply below_drew1) | exact HB.out))) : w.heap.size ≤ gb126)); clear HO_8; clear HB; have HO_8 := n0_; have HB := n1_; have BK126 := n2_; have GW126 := n3_; have GE126 := n4_; clear n0_ n1_ n2_ n3_ n4_; clear hb hbox hg; have hcz11_0 : w10.cell? ⟨gb126, 0, none⟩ = some (.int .u32 0) := (blk_cell BK126.out 0).trans rfl; have hcz11_1 : w10.cell? ⟨gb126, 1, none⟩ = some (.string (⟨#[]⟩ : ByteArray)) := (blk_cell BK126.out 1).trans rfl; have hfz11_0 := blk_frozen BK126.out 0; have hfz11_1 := blk_frozen BK126.out 1))
              go_ret
              exact ⟨by first | rfl | (simp [errW_none, errW_some] <;> rfl) | (simp [*, errW_none, errW_some] <;> rfl) | (exfalso; simp_all; done), by repeat (first | (with_reducible first | exact HB.out | apply below_alloc | apply pw_below_drewN | apply below_drew1 | refine below_set ?_ GE126.out) | exact HB.out)⟩
            · rw [if_neg c9] at H
              have c9b0 : (((rd_T118 t122 x10_1).f0) == a1) = false := beq_eq_false_iff_ne.mpr c9
              have c9b1 : (((rd_T118 t122 x10_1).f0) != a1) = true := bne_iff_ne.mpr c9
              have H' := Aside0.mk H
              clear H
              have p125 : 0 ≤ (x10_1 : Int) := of_decide_eq_true (by first | (with_reducible assumption) | assumption)
              have q125 : x10_1 < (t122.length : Int) := of_decide_eq_true (by first | (with_reducible assumption) | assumption)
              obtain ⟨ad125, e125, hx125_0, hx125_1⟩ := at_T118 (Kd.R_reads' HO_8.out).2.2 x10_1 p125 q125
              cases e125
              replace p125 := eq_true p125
              replace q125 := eq_true q125
              go_wp2_with (first | ((with_reducible refine gate_dst (N := 6) rfl ?_); refine box_event ?hg (N := 6) ?hd (cs := #[.int .u32 0, .string (⟨#[]⟩ : ByteArray)]) (t := 118) ?hr ?_; (case hd => rfl); (case hg => rfl); (case hr => first | (go_simp; done) | (go_simp; rfl)); intro gb126 hg w12 hbox hb; have n0_ := Aside0.mk (Kd.R_below (Kd.R_elderB (by (with_reducible repeat (first | apply Kd.R_alloc | apply Kd.R_drewN | apply Kd.R_drew)); exact HO_8.out) gb126 (Nat.le_of_eq hg.symm)) hb); have n1_ := Aside0.mk (below_step (by repeat (first | (with_reducible first | exact HB.out | apply below_alloc | apply pw_below_drewN | apply below_drew1) | exact HB.out)) hb); have n2_ := Aside0.mk (hbox); have n3_ := Aside0.mk ((by rw [hg]; exact (below_size (by repeat (first | (with_reducible first | exact HB.out | apply below_alloc | apply pw_below_drewN | apply below_drew1) | exact HB.out))) : w.heap.size ≤ gb126)); have n4_ := Aside0.mk ((by rw [hg]; exact (below_size (by repeat (first | (with_reducible first | exact HB.out | apply below_alloc | apply pw_below_drewN | apply below_drew1) | exact HB.out))) : w.heap.size ≤ gb126)); clear HO_8; clear HB; have HO_8 := n0_; have HB := n1_; have BK126 := n2_; have GW126 := n3_; have GE126 := n4_; clear n0_ n1_ n2_ n3_ n4_; clear hb hbox hg; have hcz13_0 : w12.cell? ⟨gb126, 0, none⟩ = some (.int .u32 0) := (blk_cell BK126.out 0).trans rfl; have hcz13_1 : w12.cell? ⟨gb126, 1, none⟩ = some (.string (⟨#[]⟩ : ByteArray)) := (blk_cell BK126.out 1).trans rfl; have hfz13_0 := blk_frozen BK126.out 0; have hfz13_1 := blk_frozen BK126.out 1))
              go_roundg k1
              case measure => have := HK1.out; omega
              case rel => exact ⟨(wrap64 (x10_1 + 1)), (by first | rfl | (simp; done) | (simp [*]; done)), H', ⟨by have := HK1.out; omega⟩, ⟨by (with_reducible repeat (first | apply Kd.R_alloc | apply Kd.R_drewN | apply Kd.R_drew)); exact Kd.R_mono (Kd.R_far (p := ⟨gb126, 1, none⟩) (Kd.R_far (p := ⟨gb126, 0, none⟩) (Kd.R_mono HO_8.out (fun k_ hk => (⟨hk, hk.2⟩ : _ ∧ k_ ≠ gb126))) (fun _ hk => hk.2) (.int .u32 ((rd_T118 t122 x10_1).f0))) (fun _ hk => hk.2) (.string ((rd_T118 t122 x10_1).f1))) (fun _ hk => trivial)⟩, ⟨by repeat (first | (with_reducible first | exact HB.out | apply below_alloc | apply pw_below_drewN | apply below_drew1 | refine below_set ?_ GE126.out) | exact HB.out)⟩⟩
          · rw [if_neg c8] at H
            exact absurd H (by simp)
        · rw [if_neg c7] at H
          exact absurd H (by simp)
      · rw [if_neg c6] at H
        have c6b0 : decide (x10_1 < (t122.length : Int)) = false := decide_eq_false c6
        clear c6
        obtain rfl := Option.some.inj H
        go_wp2
        go_ret
        exact ⟨by first | rfl | (simp [errW_none, errW_some] <;> rfl) | (simp [*, errW_none, errW_some] <;> rfl) | (exfalso; simp_all; done), by repeat (first | (with_reducible first | exact HB.out | apply below_alloc | apply pw_below_drewN | apply below_drew1) | exact HB.out)⟩

-- wire_EncodeOption: by hand

-- wire_EncodeGreeting: by hand

-- wire_DecodeOption: by hand

/-! ### spindlelaw08_alive: function 18 -/
def spindlelaw08_alive.f (k : Nat)  : Option (Bool) := (wire_EncodeOption.f 3 0 false ([] : List Int)).bind fun bt127 => ((wire_DecodeOption.f bt127.1 0).bind fun bt131 => ((spindlelaw08_num.f bt127.2).bind fun t140 => (if t140 = 0 then (if (bt127.1.length : Int) = 16 then ((spindlelaw08_num.f bt131.2.2.2.2.2).bind fun t141 => (if t141 = 0 then (if bt131.2.2.2.2.1 = 16 then (if bt131.1 = 3 then ((wire_EncodeGreeting.f 3).bind fun t142 => (if (t142.length : Int) = 18 then ((wire_Name.f k 1 7).bind fun t145 => (some (t145.toList == ([103, 111] : List UInt8)))) else (some false))) else (some false)) else (some false)) else (some false))) else (some false)) else (some false))))
theorem spindlelaw08_alive.mono : ∀ k, LeO (spindlelaw08_alive.f k ) (spindlelaw08_alive.f (k + 1) ) := by
  intro  k
  unfold spindlelaw08_alive.f
  repeat' first
      | (with_reducible exact wire_Name.mono _ _ _)
      | (with_reducible exact LeO.refl _)
      | (with_reducible exact LeO.none _)
      | (with_reducible refine LeO.ite ?_ ?_)
      | (with_reducible refine LeO.bind ?_ (fun _ => ?_))
      | exact wire_Name.mono _ _ _
      | exact LeO.none _
      | refine LeO.ite ?_ ?_
      | refine LeO.bind ?_ (fun _ => ?_)
set_option maxHeartbeats 8000000 in
set_option maxRecDepth 100000 in
theorem spindlelaw08_alive.calls (k : Nat)  (r : Bool) (w : World) (h : spindlelaw08_alive.f k  = some r) :
    Calls Try.prog 18 #[] w fun e w' => e = .returned (.bool r) ∧ Below w.heap.size w w' := by
  have hu33 := Try.underlying33
  have hu55 := Try.underlying55
  have HB := Aside0.mk (Below.refl w.heap.size w)
  have H : ((wire_EncodeOption.f 3 0 false ([] : List Int)).bind fun bt127 => ((wire_DecodeOption.f bt127.1 0).bind fun bt131 => ((spindlelaw08_num.f bt127.2).bind fun t140 => (if t140 = 0 then (if (bt127.1.length : Int) = 16 then ((spindlelaw08_num.f bt131.2.2.2.2.2).bind fun t141 => (if t141 = 0 then (if bt131.2.2.2.2.1 = 16 then (if bt131.1 = 3 then ((wire_EncodeGreeting.f 3).bind fun t142 => (if (t142.length : Int) = 18 then ((wire_Name.f k 1 7).bind fun t145 => (some (t145.toList == ([103, 111] : List UInt8)))) else (some false))) else (some false)) else (some false)) else (some false))) else (some false)) else (some false))))) = some r := h
  clear h
  replace H := Option.bind_eq_some_iff.mp H
  obtain ⟨⟨t127, t130⟩, A10, H⟩ := H
  replace H : ((wire_DecodeOption.f t127 0).bind fun bt131 => ((spindlelaw08_num.f t130).bind fun t140 => (if t140 = 0 then (if (t127.length : Int) = 16 then ((spindlelaw08_num.f bt131.2.2.2.2.2).bind fun t141 => (if t141 = 0 then (if bt131.2.2.2.2.1 = 16 then (if bt131.1 = 3 then ((wire_EncodeGreeting.f 3).bind fun t142 => (if (t142.length : Int) = 18 then ((wire_Name.f k 1 7).bind fun t145 => (some (t145.toList == ([103, 111] : List UInt8)))) else (some false))) else (some false)) else (some false)) else (some false))) else (some false)) else (some false)))) = some r := H
  have A1 := Aside0.mk A10
  clear A10
  replace H := Option.bind_eq_some_iff.mp H
  obtain ⟨⟨t131, t132, t133, t134, t137, t138⟩, A20, H⟩ := H
  replace H : ((spindlelaw08_num.f t130).bind fun t140 => (if t140 = 0 then (if (t127.length : Int) = 16 then ((spindlelaw08_num.f t138).bind fun t141 => (if t141 = 0 then (if t137 = 16 then (if t131 = 3 then ((wire_EncodeGreeting.f 3).bind fun t142 => (if (t142.length : Int) = 18 then ((wire_Name.f k 1 7).bind fun t145 => (some (t145.toList == ([103, 111] : List UInt8)))) else (some false))) else (some false)) else (some false)) else (some false))) else (some false)) else (some false))) = some r := H
  have A2 := Aside0.mk A20
  clear A20
  replace H := Option.bind_eq_some_iff.mp H
  obtain ⟨t140, A30, H⟩ := H
  replace H : (if t140 = 0 then (if (t127.length : Int) = 16 then ((spindlelaw08_num.f t138).bind fun t141 => (if t141 = 0 then (if t137 = 16 then (if t131 = 3 then ((wire_EncodeGreeting.f 3).bind fun t142 => (if (t142.length : Int) = 18 then ((wire_Name.f k 1 7).bind fun t145 => (some (t145.toList == ([103, 111] : List UInt8)))) else (some false))) else (some false)) else (some false)) else (some false))) else (some false)) else (some false)) = some r := H
  have A3 := Aside0.mk A30
  clear A30
  by_cases c4 : t140 = 0
  · rw [if_pos c4] at H
    have c4b0 : (t140 == 0) = true := beq_iff_eq.mpr c4
    have c4b1 : (t140 != 0) = false := bne_eq_false_iff_eq.mpr c4
    clear c4
    by_cases c5 : (t127.length : Int) = 16
    · rw [if_pos c5] at H
      have c5b0 : ((t127.length : Int) == 16) = true := beq_iff_eq.mpr c5
      have c5b1 : ((t127.length : Int) != 16) = false := bne_eq_false_iff_eq.mpr c5
      clear c5
      replace H := Option.bind_eq_some_iff.mp H
      obtain ⟨t141, A60, H⟩ := H
      replace H : (if t141 = 0 then (if t137 = 16 then (if t131 = 3 then ((wire_EncodeGreeting.f 3).bind fun t142 => (if (t142.length : Int) = 18 then ((wire_Name.f k 1 7).bind fun t145 => (some (t145.toList == ([103, 111] : List UInt8)))) else (some false))) else (some false)) else (some false)) else (some false)) = some r := H
      have A6 := Aside0.mk A60
      clear A60
      by_cases c7 : t141 = 0
      · rw [if_pos c7] at H
        have c7b0 : (t141 == 0) = true := beq_iff_eq.mpr c7
        have c7b1 : (t141 != 0) = false := bne_eq_false_iff_eq.mpr c7
        clear c7
        by_cases c8 : t137 = 16
        · rw [if_pos c8] at H
          have c8b0 : (t137 == 16) = true := beq_iff_eq.mpr c8
          have c8b1 : (t137 != 16) = false := bne_eq_false_iff_eq.mpr c8
          clear c8
          by_cases c9 : t131 = 3
          · rw [if_pos c9] at H
            have c9b0 : (t131 == 3) = true := beq_iff_eq.mpr c9
            have c9b1 : (t131 != 3) = false := bne_eq_false_iff_eq.mpr c9
            clear c9
            replace H := Option.bind_eq_some_iff.mp H
            obtain ⟨t142, A100, H⟩ := H
            replace H : (if (t142.length : Int) = 18 then ((wire_Name.f k 1 7).bind fun t145 => (some (t145.toList == ([103, 111] : List UInt8)))) else (some false)) = some r := H
            have A10 := Aside0.mk A100
            clear A100
            by_cases c11 : (t142.length : Int) = 18
            · rw [if_pos c11] at H
              have c11b0 : ((t142.length : Int) == 18) = true := beq_iff_eq.mpr c11
              have c11b1 : ((t142.length : Int) != 18) = false := bne_eq_false_iff_eq.mpr c11
              clear c11
              replace H := Option.bind_eq_some_iff.mp H
              obtain ⟨t145, A120, H⟩ := H
              replace H : (some (t145.toList == ([103, 111] : List UInt8))) = some r := H
              have A12 := Aside0.mk A120
              clear A120
              obtain rfl := Option.some.inj H
              go_enter Try.func18, Try.ntmps18
              go_wp2_with (first | ((with_reducible refine gate_callee (f := 20) rfl ?_); refine goesL_ (some 8) rfl rfl Try.func20 (by kernel_rfl) rfl #[.agg #[.int .u32 3, .int .u32 0, .bool false, .slice none 0 0]] rfl (by (try simp only [List.map_toArray, List.map_cons, List.map_nil]); first | done | rfl | (simp only [List.length_drop, List.length_take]; rfl)) ?_; (refine (wire_EncodeOption.calls 3 0 false _ _ ([] : List Int) t127 t130 _ ?side1 ?side2 A1.out).mono ?_); (case side1 => exact Kd.C_nil _ _); (case side2 => exact Nat.le_refl _); rintro e w13 ⟨v128, rfl, ho0, hb⟩; refine ⟨_, rfl, ?_⟩; have n0_ := Aside0.mk (Kd.R_lower ho0 (below_size (by repeat (first | (with_reducible first | exact HB.out | apply below_alloc | apply pw_below_drewN | apply below_drew1) | exact HB.out)))); have n1_ := Aside0.mk (below_step (by repeat (first | (with_reducible first | exact HB.out | apply below_alloc | apply pw_below_drewN | apply below_drew1) | exact HB.out)) hb); clear HB; have HO129 := n0_; have HB := n1_; clear n0_ n1_; (try clear hb); (try clear hb2); (try clear hk); (try clear hi); (try clear ho0); obtain ⟨Ao14, co14, eo14⟩ := Kd.R_slice HO129.out; subst eo14) | ((with_reducible refine gate_callee (f := 49) rfl ?_); refine goesL_ (some 13) rfl rfl Try.func49 (by kernel_rfl) rfl #[.slice Ao14 t127.length co14, .int .u32 0] rfl (by (try simp only [List.map_toArray, List.map_cons, List.map_nil]); first | done | rfl | (simp only [List.length_drop, List.length_take]; rfl)) ?_; (with_reducible refine (wire_DecodeOption.calls _ _ t127 0 t131 t132 t133 t134 t137 t138 _ ?side1 ?side2 A2.out).mono ?_); (case side1 => repeat (first | exact (Kd.R_reads' HO129.out).2.2 | (with_reducible refine Kd.C_alloc ?_ _) | (with_reducible refine Kd.C_drewN ?_ _) | (with_reducible refine Kd.C_drew ?_))); (case side2 => exact (Kd.R_reads' HO129.out).2.1); rintro e w15 ⟨v135, rfl, ho0, hb⟩; refine ⟨_, rfl, ?_⟩; have n0_ := Aside0.mk (Kd.R_elder' (by (with_reducible repeat (first | apply Kd.R_alloc | apply Kd.R_drewN | apply Kd.R_drew)); exact HO129.out) (Kd.R_base ho0) hb); have n1_ := Aside0.mk (Kd.R_lower (Kd.R_new' ho0 (Kd.R_lt (by (with_reducible repeat (first | apply Kd.R_alloc | apply Kd.R_drewN | apply Kd.R_drew)); exact HO129.out))) (below_size (by repeat (first | (with_reducible first | exact HB.out | apply below_alloc | apply pw_below_drewN | apply below_drew1) | exact HB.out)))); have n2_ := Aside0.mk (below_step (by repeat (first | (with_reducible first | exact HB.out | apply below_alloc | apply pw_below_drewN | apply below_drew1) | exact HB.out)) hb); clear HO129; clear HB; have HO129 := n0_; have HO136 := n1_; have HB := n2_; clear n0_ n1_ n2_; (try clear hb); (try clear hb2); (try clear hk); (try clear hi); (try clear ho0)) | ((with_reducible refine gate_dst (N := 3) rfl ?_); (try (refine gate_guard (by rfl) ?_; dsimp only)); refine box_event ?hg (N := 3) ?hd (cs := #[.int .u32 0, .int .u32 0, .bool false, .slice none 0 0]) (t := 33) ?hr ?_; (case hd => rfl); (case hg => rfl); (case hr => first | (go_simp; done) | (go_simp; rfl)); intro gb139 hg w16 hbox hb; have n0_ := Aside0.mk (Kd.R_below (by (with_reducible repeat (first | apply Kd.R_alloc | apply Kd.R_drewN | apply Kd.R_drew)); exact HO129.out) hb); have n1_ := Aside0.mk (Kd.R_below (by (with_reducible repeat (first | apply Kd.R_alloc | apply Kd.R_drewN | apply Kd.R_drew)); exact HO136.out) hb); have n2_ := Aside0.mk (below_step (by repeat (first | (with_reducible first | exact HB.out | apply below_alloc | apply pw_below_drewN | apply below_drew1) | exact HB.out)) hb); have n3_ := Aside0.mk (hbox); have n4_ := Aside0.mk ((by rw [hg]; exact (below_size (by repeat (first | (with_reducible first | exact HB.out | apply below_alloc | apply pw_below_drewN | apply below_drew1) | exact HB.out))) : w.heap.size ≤ gb139)); have n5_ := Aside0.mk ((by rw [hg]; exact (below_size (by repeat (first | (with_reducible first | exact HB.out | apply below_alloc | apply pw_below_drewN | apply below_drew1) | exact HB.out))) : w.heap.size ≤ gb139)); clear HO129; clear HO136; clear HB; have HO129 := n0_; have HO136 := n1_; have HB := n2_; have BK139 := n3_; have GW139 := n4_; have GE139 := n5_; clear n0_ n1_ n2_ n3_ n4_ n5_; clear hb hbox hg; have hcz17_0 : w16.cell? ⟨gb139, 0, none⟩ = some (.int .u32 0) := (blk_cell BK139.out 0).trans rfl; have hcz17_1 : w16.cell? ⟨gb139, 1, none⟩ = some (.int .u32 0) := (blk_cell BK139.out 1).trans rfl; have hcz17_2 : w16.cell? ⟨gb139, 2, none⟩ = some (.bool false) := (blk_cell BK139.out 2).trans rfl; have hcz17_3 : w16.cell? ⟨gb139, 3, none⟩ = some (.slice none 0 0) := (blk_cell BK139.out 3).trans rfl; have hfz17_0 := blk_frozen BK139.out 0; have hfz17_1 := blk_frozen BK139.out 1; have hfz17_2 := blk_frozen BK139.out 2; have hfz17_3 := blk_frozen BK139.out 3; obtain ⟨Ao18, co18, eo18⟩ := Kd.R_slice HO136.out; subst eo18) | ((with_reducible refine gate_callee (f := 13) rfl ?_); refine goesL_ (some 18) rfl rfl Try.func13 (by kernel_rfl) rfl #[.int .i64 t130] rfl (by (try simp only [List.map_toArray, List.map_cons, List.map_nil]); first | done | rfl | (simp only [List.length_drop, List.length_take]; rfl)) ?_; (with_reducible refine (spindlelaw08_num.calls t130 t140 _ A3.out).mono ?_); rintro e w' ⟨rfl, ⟨nd, rfl⟩⟩; refine ⟨_, rfl, ?_⟩) | (go_at_call 13; (with_reducible refine (spindlelaw08_num.calls t138 t141 _ A6.out).mono ?_); rintro e w' ⟨rfl, ⟨nd, rfl⟩⟩) | (go_at_call 30; (with_reducible refine (wire_EncodeGreeting.calls 3 t142 _ A10.out).mono ?_); rintro e w19 ⟨v143, rfl, ho0, hb⟩; have n0_ := Aside0.mk (Kd.R_elder' (by (with_reducible repeat (first | apply Kd.R_alloc | apply Kd.R_drewN | apply Kd.R_drew)); exact (Kd.R_mono (Kd.R_far (p := ⟨gb139, 3, none⟩) (Kd.R_far (p := ⟨gb139, 2, none⟩) (Kd.R_far (p := ⟨gb139, 1, none⟩) (Kd.R_far (p := ⟨gb139, 0, none⟩) (Kd.R_types HO129.out BK139.out (by decide)) (fun _ hk => hk.2) (.int .u32 t131)) (fun _ hk => hk.2) (.int .u32 t132)) (fun _ hk => hk.2) (.bool t133)) (fun _ hk => hk.2) (.slice Ao18 t134.length co18)) (fun _ h_ => h_.1))) (Kd.R_base ho0) hb); have n1_ := Aside0.mk (Kd.R_elder' (by (with_reducible repeat (first | apply Kd.R_alloc | apply Kd.R_drewN | apply Kd.R_drew)); exact (Kd.R_mono (Kd.R_far (p := ⟨gb139, 3, none⟩) (Kd.R_far (p := ⟨gb139, 2, none⟩) (Kd.R_far (p := ⟨gb139, 1, none⟩) (Kd.R_far (p := ⟨gb139, 0, none⟩) (Kd.R_types HO136.out BK139.out (by decide)) (fun _ hk => hk.2) (.int .u32 t131)) (fun _ hk => hk.2) (.int .u32 t132)) (fun _ hk => hk.2) (.bool t133)) (fun _ hk => hk.2) (.slice Ao18 t134.length co18)) (fun _ h_ => h_.1))) (Kd.R_base ho0) hb); have n2_ := Aside0.mk (Kd.R_lower (Kd.R_new' (Kd.R_new' ho0 (Kd.R_lt (by (with_reducible repeat (first | apply Kd.R_alloc | apply Kd.R_drewN | apply Kd.R_drew)); exact (Kd.R_mono (Kd.R_far (p := ⟨gb139, 3, none⟩) (Kd.R_far (p := ⟨gb139, 2, none⟩) (Kd.R_far (p := ⟨gb139, 1, none⟩) (Kd.R_far (p := ⟨gb139, 0, none⟩) (Kd.R_types HO129.out BK139.out (by decide)) (fun _ hk => hk.2) (.int .u32 t131)) (fun _ hk => hk.2) (.int .u32 t132)) (fun _ hk => hk.2) (.bool t133)) (fun _ hk => hk.2) (.slice Ao18 t134.length co18)) (fun _ h_ => h_.1))))) (Kd.R_lt (by (with_reducible repeat (first | apply Kd.R_alloc | apply Kd.R_drewN | apply Kd.R_drew)); exact (Kd.R_mono (Kd.R_far (p := ⟨gb139, 3, none⟩) (Kd.R_far (p := ⟨gb139, 2, none⟩) (Kd.R_far (p := ⟨gb139, 1, none⟩) (Kd.R_far (p := ⟨gb139, 0, none⟩) (Kd.R_types HO136.out BK139.out (by decide)) (fun _ hk => hk.2) (.int .u32 t131)) (fun _ hk => hk.2) (.int .u32 t132)) (fun _ hk => hk.2) (.bool t133)) (fun _ hk => hk.2) (.slice Ao18 t134.length co18)) (fun _ h_ => h_.1))))) (below_size (by repeat (first | (with_reducible first | exact HB.out | apply below_alloc | apply pw_below_drewN | apply below_drew1 | refine below_set ?_ GE139.out) | exact HB.out)))); have n3_ := Aside0.mk (blk_below (g := gb139) (o := .cells #[.int .u32 t131, .int .u32 t132, .bool t133, .slice Ao18 t134.length co18] 33 (0, 0)) (by (with_reducible repeat (first | refine blk_drewN ?_ _ | refine blk_drew ?_ | refine blk_alloc ?_ _)); refine blk_put (cs := #[.int .u32 t131, .int .u32 t132, .bool t133, .slice none 0 0]) ?_ 3 _ rfl; (with_reducible repeat (first | refine blk_drewN ?_ _ | refine blk_drew ?_ | refine blk_alloc ?_ _)); refine blk_put (cs := #[.int .u32 t131, .int .u32 t132, .bool false, .slice none 0 0]) ?_ 2 _ rfl; (with_reducible repeat (first | refine blk_drewN ?_ _ | refine blk_drew ?_ | refine blk_alloc ?_ _)); refine blk_put (cs := #[.int .u32 t131, .int .u32 0, .bool false, .slice none 0 0]) ?_ 1 _ rfl; (with_reducible repeat (first | refine blk_drewN ?_ _ | refine blk_drew ?_ | refine blk_alloc ?_ _)); refine blk_put (cs := #[.int .u32 0, .int .u32 0, .bool false, .slice none 0 0]) ?_ 0 _ rfl; (with_reducible repeat (first | refine blk_drewN ?_ _ | refine blk_drew ?_ | refine blk_alloc ?_ _)); exact BK139.out) hb); have n4_ := Aside0.mk (below_step (by repeat (first | (with_reducible first | exact HB.out | apply below_alloc | apply pw_below_drewN | apply below_drew1 | refine below_set ?_ GE139.out) | exact HB.out)) hb); clear HO129; clear HO136; clear BK139; clear HB; have HO129 := n0_; have HO136 := n1_; have HO144 := n2_; have BK139 := n3_; have HB := n4_; clear n0_ n1_ n2_ n3_ n4_; (try clear hb); (try clear hb2); (try clear hk); (try clear hi); (try clear ho0); obtain ⟨Ao20, co20, eo20⟩ := Kd.R_slice HO144.out; subst eo20) | (go_at_call 16; (with_reducible refine (wire_Name.calls k 1 7 t145 _ A12.out).mono ?_); rintro e w21 ⟨rfl, hb⟩; have n0_ := Aside0.mk (Kd.R_below (by (with_reducible repeat (first | apply Kd.R_alloc | apply Kd.R_drewN | apply Kd.R_drew)); exact HO129.out) hb); have n1_ := Aside0.mk (Kd.R_below (by (with_reducible repeat (first | apply Kd.R_alloc | apply Kd.R_drewN | apply Kd.R_drew)); exact HO136.out) hb); have n2_ := Aside0.mk (Kd.R_below (by (with_reducible repeat (first | apply Kd.R_alloc | apply Kd.R_drewN | apply Kd.R_drew)); exact HO144.out) hb); have n3_ := Aside0.mk (blk_below (g := gb139) (o := .cells #[.int .u32 t131, .int .u32 t132, .bool t133, .slice Ao18 t134.length co18] 33 (0, 0)) (by (with_reducible repeat (first | refine blk_drewN ?_ _ | refine blk_drew ?_ | refine blk_alloc ?_ _)); exact BK139.out) hb); have n4_ := Aside0.mk (below_step (by repeat (first | (with_reducible first | exact HB.out | apply below_alloc | apply pw_below_drewN | apply below_drew1 | refine below_set ?_ GE139.out) | exact HB.out)) hb); clear HO129; clear HO136; clear HO144; clear BK139; clear HB; have HO129 := n0_; have HO136 := n1_; have HO144 := n2_; have BK139 := n3_; have HB := n4_; clear n0_ n1_ n2_ n3_ n4_; (try clear hb); (try clear hb2); (try clear hk); (try clear hi)))
              go_ret
              exact ⟨by first | rfl | (simp [errW_none, errW_some] <;> rfl) | (simp [*, errW_none, errW_some] <;> rfl) | (exfalso; simp_all; done), by repeat (first | (with_reducible first | exact HB.out | apply below_alloc | apply pw_below_drewN | apply below_drew1 | refine below_set ?_ GE139.out) | exact HB.out)⟩
            · rw [if_neg c11] at H
              have c11b0 : ((t142.length : Int) == 18) = false := beq_eq_false_iff_ne.mpr c11
              have c11b1 : ((t142.length : Int) != 18) = true := bne_iff_ne.mpr c11
              obtain rfl := Option.some.inj H
              go_enter Try.func18, Try.ntmps18
              go_wp2_with (first | ((with_reducible refine gate_callee (f := 20) rfl ?_); refine goesL_ (some 8) rfl rfl Try.func20 (by kernel_rfl) rfl #[.agg #[.int .u32 3, .int .u32 0, .bool false, .slice none 0 0]] rfl (by (try simp only [List.map_toArray, List.map_cons, List.map_nil]); first | done | rfl | (simp only [List.length_drop, List.length_take]; rfl)) ?_; (refine (wire_EncodeOption.calls 3 0 false _ _ ([] : List Int) t127 t130 _ ?side1 ?side2 A1.out).mono ?_); (case side1 => exact Kd.C_nil _ _); (case side2 => exact Nat.le_refl _); rintro e w22 ⟨v128, rfl, ho0, hb⟩; refine ⟨_, rfl, ?_⟩; have n0_ := Aside0.mk (Kd.R_lower ho0 (below_size (by repeat (first | (with_reducible first | exact HB.out | apply below_alloc | apply pw_below_drewN | apply below_drew1) | exact HB.out)))); have n1_ := Aside0.mk (below_step (by repeat (first | (with_reducible first | exact HB.out | apply below_alloc | apply pw_below_drewN | apply below_drew1) | exact HB.out)) hb); clear HB; have HO129 := n0_; have HB := n1_; clear n0_ n1_; (try clear hb); (try clear hb2); (try clear hk); (try clear hi); (try clear ho0); obtain ⟨Ao23, co23, eo23⟩ := Kd.R_slice HO129.out; subst eo23) | ((with_reducible refine gate_callee (f := 49) rfl ?_); refine goesL_ (some 13) rfl rfl Try.func49 (by kernel_rfl) rfl #[.slice Ao23 t127.length co23, .int .u32 0] rfl (by (try simp only [List.map_toArray, List.map_cons, List.map_nil]); first | done | rfl | (simp only [List.length_drop, List.length_take]; rfl)) ?_; (with_reducible refine (wire_DecodeOption.calls _ _ t127 0 t131 t132 t133 t134 t137 t138 _ ?side1 ?side2 A2.out).mono ?_); (case side1 => repeat (first | exact (Kd.R_reads' HO129.out).2.2 | (with_reducible refine Kd.C_alloc ?_ _) | (with_reducible refine Kd.C_drewN ?_ _) | (with_reducible refine Kd.C_drew ?_))); (case side2 => exact (Kd.R_reads' HO129.out).2.1); rintro e w24 ⟨v135, rfl, ho0, hb⟩; refine ⟨_, rfl, ?_⟩; have n0_ := Aside0.mk (Kd.R_elder' (by (with_reducible repeat (first | apply Kd.R_alloc | apply Kd.R_drewN | apply Kd.R_drew)); exact HO129.out) (Kd.R_base ho0) hb); have n1_ := Aside0.mk (Kd.R_lower (Kd.R_new' ho0 (Kd.R_lt (by (with_reducible repeat (first | apply Kd.R_alloc | apply Kd.R_drewN | apply Kd.R_drew)); exact HO129.out))) (below_size (by repeat (first | (with_reducible first | exact HB.out | apply below_alloc | apply pw_below_drewN | apply below_drew1) | exact HB.out)))); have n2_ := Aside0.mk (below_step (by repeat (first | (with_reducible first | exact HB.out | apply below_alloc | apply pw_below_drewN | apply below_drew1) | exact HB.out)) hb); clear HO129; clear HB; have HO129 := n0_; have HO136 := n1_; have HB := n2_; clear n0_ n1_ n2_; (try clear hb); (try clear hb2); (try clear hk); (try clear hi); (try clear ho0)) | ((with_reducible refine gate_dst (N := 3) rfl ?_); (try (refine gate_guard (by rfl) ?_; dsimp only)); refine box_event ?hg (N := 3) ?hd (cs := #[.int .u32 0, .int .u32 0, .bool false, .slice none 0 0]) (t := 33) ?hr ?_; (case hd => rfl); (case hg => rfl); (case hr => first | (go_simp; done) | (go_simp; rfl)); intro gb139 hg w25 hbox hb; have n0_ := Aside0.mk (Kd.R_below (by (with_reducible repeat (first | apply Kd.R_alloc | apply Kd.R_drewN | apply Kd.R_drew)); exact HO129.out) hb); have n1_ := Aside0.mk (Kd.R_below (by (with_reducible repeat (first | apply Kd.R_alloc | apply Kd.R_drewN | apply Kd.R_drew)); exact HO136.out) hb); have n2_ := Aside0.mk (below_step (by repeat (first | (with_reducible first | exact HB.out | apply below_alloc | apply pw_below_drewN | apply below_drew1) | exact HB.out)) hb); have n3_ := Aside0.mk (hbox); have n4_ := Aside0.mk ((by rw [hg]; exact (below_size (by repeat (first | (with_reducible first | exact HB.out | apply below_alloc | apply pw_below_drewN | apply below_drew1) | exact HB.out))) : w.heap.size ≤ gb139)); have n5_ := Aside0.mk ((by rw [hg]; exact (below_size (by repeat (first | (with_reducible first | exact HB.out | apply below_alloc | apply pw_below_drewN | apply below_drew1) | exact HB.out))) : w.heap.size ≤ gb139)); clear HO129; clear HO136; clear HB; have HO129 := n0_; have HO136 := n1_; have HB := n2_; have BK139 := n3_; have GW139 := n4_; have GE139 := n5_; clear n0_ n1_ n2_ n3_ n4_ n5_; clear hb hbox hg; have hcz26_0 : w25.cell? ⟨gb139, 0, none⟩ = some (.int .u32 0) := (blk_cell BK139.out 0).trans rfl; have hcz26_1 : w25.cell? ⟨gb139, 1, none⟩ = some (.int .u32 0) := (blk_cell BK139.out 1).trans rfl; have hcz26_2 : w25.cell? ⟨gb139, 2, none⟩ = some (.bool false) := (blk_cell BK139.out 2).trans rfl; have hcz26_3 : w25.cell? ⟨gb139, 3, none⟩ = some (.slice none 0 0) := (blk_cell BK139.out 3).trans rfl; have hfz26_0 := blk_frozen BK139.out 0; have hfz26_1 := blk_frozen BK139.out 1; have hfz26_2 := blk_frozen BK139.out 2; have hfz26_3 := blk_frozen BK139.out 3; obtain ⟨Ao27, co27, eo27⟩ := Kd.R_slice HO136.out; subst eo27) | ((with_reducible refine gate_callee (f := 13) rfl ?_); refine goesL_ (some 18) rfl rfl Try.func13 (by kernel_rfl) rfl #[.int .i64 t130] rfl (by (try simp only [List.map_toArray, List.map_cons, List.map_nil]); first | done | rfl | (simp only [List.length_drop, List.length_take]; rfl)) ?_; (with_reducible refine (spindlelaw08_num.calls t130 t140 _ A3.out).mono ?_); rintro e w' ⟨rfl, ⟨nd, rfl⟩⟩; refine ⟨_, rfl, ?_⟩) | (go_at_call 13; (with_reducible refine (spindlelaw08_num.calls t138 t141 _ A6.out).mono ?_); rintro e w' ⟨rfl, ⟨nd, rfl⟩⟩) | (go_at_call 30; (with_reducible refine (wire_EncodeGreeting.calls 3 t142 _ A10.out).mono ?_); rintro e w28 ⟨v143, rfl, ho0, hb⟩; have n0_ := Aside0.mk (Kd.R_elder' (by (with_reducible repeat (first | apply Kd.R_alloc | apply Kd.R_drewN | apply Kd.R_drew)); exact (Kd.R_mono (Kd.R_far (p := ⟨gb139, 3, none⟩) (Kd.R_far (p := ⟨gb139, 2, none⟩) (Kd.R_far (p := ⟨gb139, 1, none⟩) (Kd.R_far (p := ⟨gb139, 0, none⟩) (Kd.R_types HO129.out BK139.out (by decide)) (fun _ hk => hk.2) (.int .u32 t131)) (fun _ hk => hk.2) (.int .u32 t132)) (fun _ hk => hk.2) (.bool t133)) (fun _ hk => hk.2) (.slice Ao27 t134.length co27)) (fun _ h_ => h_.1))) (Kd.R_base ho0) hb); have n1_ := Aside0.mk (Kd.R_elder' (by (with_reducible repeat (first | apply Kd.R_alloc | apply Kd.R_drewN | apply Kd.R_drew)); exact (Kd.R_mono (Kd.R_far (p := ⟨gb139, 3, none⟩) (Kd.R_far (p := ⟨gb139, 2, none⟩) (Kd.R_far (p := ⟨gb139, 1, none⟩) (Kd.R_far (p := ⟨gb139, 0, none⟩) (Kd.R_types HO136.out BK139.out (by decide)) (fun _ hk => hk.2) (.int .u32 t131)) (fun _ hk => hk.2) (.int .u32 t132)) (fun _ hk => hk.2) (.bool t133)) (fun _ hk => hk.2) (.slice Ao27 t134.length co27)) (fun _ h_ => h_.1))) (Kd.R_base ho0) hb); have n2_ := Aside0.mk (Kd.R_lower (Kd.R_new' (Kd.R_new' ho0 (Kd.R_lt (by (with_reducible repeat (first | apply Kd.R_alloc | apply Kd.R_drewN | apply Kd.R_drew)); exact (Kd.R_mono (Kd.R_far (p := ⟨gb139, 3, none⟩) (Kd.R_far (p := ⟨gb139, 2, none⟩) (Kd.R_far (p := ⟨gb139, 1, none⟩) (Kd.R_far (p := ⟨gb139, 0, none⟩) (Kd.R_types HO129.out BK139.out (by decide)) (fun _ hk => hk.2) (.int .u32 t131)) (fun _ hk => hk.2) (.int .u32 t132)) (fun _ hk => hk.2) (.bool t133)) (fun _ hk => hk.2) (.slice Ao27 t134.length co27)) (fun _ h_ => h_.1))))) (Kd.R_lt (by (with_reducible repeat (first | apply Kd.R_alloc | apply Kd.R_drewN | apply Kd.R_drew)); exact (Kd.R_mono (Kd.R_far (p := ⟨gb139, 3, none⟩) (Kd.R_far (p := ⟨gb139, 2, none⟩) (Kd.R_far (p := ⟨gb139, 1, none⟩) (Kd.R_far (p := ⟨gb139, 0, none⟩) (Kd.R_types HO136.out BK139.out (by decide)) (fun _ hk => hk.2) (.int .u32 t131)) (fun _ hk => hk.2) (.int .u32 t132)) (fun _ hk => hk.2) (.bool t133)) (fun _ hk => hk.2) (.slice Ao27 t134.length co27)) (fun _ h_ => h_.1))))) (below_size (by repeat (first | (with_reducible first | exact HB.out | apply below_alloc | apply pw_below_drewN | apply below_drew1 | refine below_set ?_ GE139.out) | exact HB.out)))); have n3_ := Aside0.mk (blk_below (g := gb139) (o := .cells #[.int .u32 t131, .int .u32 t132, .bool t133, .slice Ao27 t134.length co27] 33 (0, 0)) (by (with_reducible repeat (first | refine blk_drewN ?_ _ | refine blk_drew ?_ | refine blk_alloc ?_ _)); refine blk_put (cs := #[.int .u32 t131, .int .u32 t132, .bool t133, .slice none 0 0]) ?_ 3 _ rfl; (with_reducible repeat (first | refine blk_drewN ?_ _ | refine blk_drew ?_ | refine blk_alloc ?_ _)); refine blk_put (cs := #[.int .u32 t131, .int .u32 t132, .bool false, .slice none 0 0]) ?_ 2 _ rfl; (with_reducible repeat (first | refine blk_drewN ?_ _ | refine blk_drew ?_ | refine blk_alloc ?_ _)); refine blk_put (cs := #[.int .u32 t131, .int .u32 0, .bool false, .slice none 0 0]) ?_ 1 _ rfl; (with_reducible repeat (first | refine blk_drewN ?_ _ | refine blk_drew ?_ | refine blk_alloc ?_ _)); refine blk_put (cs := #[.int .u32 0, .int .u32 0, .bool false, .slice none 0 0]) ?_ 0 _ rfl; (with_reducible repeat (first | refine blk_drewN ?_ _ | refine blk_drew ?_ | refine blk_alloc ?_ _)); exact BK139.out) hb); have n4_ := Aside0.mk (below_step (by repeat (first | (with_reducible first | exact HB.out | apply below_alloc | apply pw_below_drewN | apply below_drew1 | refine below_set ?_ GE139.out) | exact HB.out)) hb); clear HO129; clear HO136; clear BK139; clear HB; have HO129 := n0_; have HO136 := n1_; have HO144 := n2_; have BK139 := n3_; have HB := n4_; clear n0_ n1_ n2_ n3_ n4_; (try clear hb); (try clear hb2); (try clear hk); (try clear hi); (try clear ho0); obtain ⟨Ao29, co29, eo29⟩ := Kd.R_slice HO144.out; subst eo29))
              go_ret
              exact ⟨by first | rfl | (simp [errW_none, errW_some] <;> rfl) | (simp [*, errW_none, errW_some] <;> rfl) | (exfalso; simp_all; done), by repeat (first | (with_reducible first | exact HB.out | apply below_alloc | apply pw_below_drewN | apply below_drew1 | refine below_set ?_ GE139.out) | exact HB.out)⟩
          · rw [if_neg c9] at H
            have c9b0 : (t131 == 3) = false := beq_eq_false_iff_ne.mpr c9
            have c9b1 : (t131 != 3) = true := bne_iff_ne.mpr c9
            obtain rfl := Option.some.inj H
            go_enter Try.func18, Try.ntmps18
            go_wp2_with (first | ((with_reducible refine gate_callee (f := 20) rfl ?_); refine goesL_ (some 8) rfl rfl Try.func20 (by kernel_rfl) rfl #[.agg #[.int .u32 3, .int .u32 0, .bool false, .slice none 0 0]] rfl (by (try simp only [List.map_toArray, List.map_cons, List.map_nil]); first | done | rfl | (simp only [List.length_drop, List.length_take]; rfl)) ?_; (refine (wire_EncodeOption.calls 3 0 false _ _ ([] : List Int) t127 t130 _ ?side1 ?side2 A1.out).mono ?_); (case side1 => exact Kd.C_nil _ _); (case side2 => exact Nat.le_refl _); rintro e w30 ⟨v128, rfl, ho0, hb⟩; refine ⟨_, rfl, ?_⟩; have n0_ := Aside0.mk (Kd.R_lower ho0 (below_size (by repeat (first | (with_reducible first | exact HB.out | apply below_alloc | apply pw_below_drewN | apply below_drew1) | exact HB.out)))); have n1_ := Aside0.mk (below_step (by repeat (first | (with_reducible first | exact HB.out | apply below_alloc | apply pw_below_drewN | apply below_drew1) | exact HB.out)) hb); clear HB; have HO129 := n0_; have HB := n1_; clear n0_ n1_; (try clear hb); (try clear hb2); (try clear hk); (try clear hi); (try clear ho0); obtain ⟨Ao31, co31, eo31⟩ := Kd.R_slice HO129.out; subst eo31) | ((with_reducible refine gate_callee (f := 49) rfl ?_); refine goesL_ (some 13) rfl rfl Try.func49 (by kernel_rfl) rfl #[.slice Ao31 t127.length co31, .int .u32 0] rfl (by (try simp only [List.map_toArray, List.map_cons, List.map_nil]); first | done | rfl | (simp only [List.length_drop, List.length_take]; rfl)) ?_; (with_reducible refine (wire_DecodeOption.calls _ _ t127 0 t131 t132 t133 t134 t137 t138 _ ?side1 ?side2 A2.out).mono ?_); (case side1 => repeat (first | exact (Kd.R_reads' HO129.out).2.2 | (with_reducible refine Kd.C_alloc ?_ _) | (with_reducible refine Kd.C_drewN ?_ _) | (with_reducible refine Kd.C_drew ?_))); (case side2 => exact (Kd.R_reads' HO129.out).2.1); rintro e w32 ⟨v135, rfl, ho0, hb⟩; refine ⟨_, rfl, ?_⟩; have n0_ := Aside0.mk (Kd.R_elder' (by (with_reducible repeat (first | apply Kd.R_alloc | apply Kd.R_drewN | apply Kd.R_drew)); exact HO129.out) (Kd.R_base ho0) hb); have n1_ := Aside0.mk (Kd.R_lower (Kd.R_new' ho0 (Kd.R_lt (by (with_reducible repeat (first | apply Kd.R_alloc | apply Kd.R_drewN | apply Kd.R_drew)); exact HO129.out))) (below_size (by repeat (first | (with_reducible first | exact HB.out | apply below_alloc | apply pw_below_drewN | apply below_drew1) | exact HB.out)))); have n2_ := Aside0.mk (below_step (by repeat (first | (with_reducible first | exact HB.out | apply below_alloc | apply pw_below_drewN | apply below_drew1) | exact HB.out)) hb); clear HO129; clear HB; have HO129 := n0_; have HO136 := n1_; have HB := n2_; clear n0_ n1_ n2_; (try clear hb); (try clear hb2); (try clear hk); (try clear hi); (try clear ho0)) | ((with_reducible refine gate_dst (N := 3) rfl ?_); (try (refine gate_guard (by rfl) ?_; dsimp only)); refine box_event ?hg (N := 3) ?hd (cs := #[.int .u32 0, .int .u32 0, .bool false, .slice none 0 0]) (t := 33) ?hr ?_; (case hd => rfl); (case hg => rfl); (case hr => first | (go_simp; done) | (go_simp; rfl)); intro gb139 hg w33 hbox hb; have n0_ := Aside0.mk (Kd.R_below (by (with_reducible repeat (first | apply Kd.R_alloc | apply Kd.R_drewN | apply Kd.R_drew)); exact HO129.out) hb); have n1_ := Aside0.mk (Kd.R_below (by (with_reducible repeat (first | apply Kd.R_alloc | apply Kd.R_drewN | apply Kd.R_drew)); exact HO136.out) hb); have n2_ := Aside0.mk (below_step (by repeat (first | (with_reducible first | exact HB.out | apply below_alloc | apply pw_below_drewN | apply below_drew1) | exact HB.out)) hb); have n3_ := Aside0.mk (hbox); have n4_ := Aside0.mk ((by rw [hg]; exact (below_size (by repeat (first | (with_reducible first | exact HB.out | apply below_alloc | apply pw_below_drewN | apply below_drew1) | exact HB.out))) : w.heap.size ≤ gb139)); have n5_ := Aside0.mk ((by rw [hg]; exact (below_size (by repeat (first | (with_reducible first | exact HB.out | apply below_alloc | apply pw_below_drewN | apply below_drew1) | exact HB.out))) : w.heap.size ≤ gb139)); clear HO129; clear HO136; clear HB; have HO129 := n0_; have HO136 := n1_; have HB := n2_; have BK139 := n3_; have GW139 := n4_; have GE139 := n5_; clear n0_ n1_ n2_ n3_ n4_ n5_; clear hb hbox hg; have hcz34_0 : w33.cell? ⟨gb139, 0, none⟩ = some (.int .u32 0) := (blk_cell BK139.out 0).trans rfl; have hcz34_1 : w33.cell? ⟨gb139, 1, none⟩ = some (.int .u32 0) := (blk_cell BK139.out 1).trans rfl; have hcz34_2 : w33.cell? ⟨gb139, 2, none⟩ = some (.bool false) := (blk_cell BK139.out 2).trans rfl; have hcz34_3 : w33.cell? ⟨gb139, 3, none⟩ = some (.slice none 0 0) := (blk_cell BK139.out 3).trans rfl; have hfz34_0 := blk_frozen BK139.out 0; have hfz34_1 := blk_frozen BK139.out 1; have hfz34_2 := blk_frozen BK139.out 2; have hfz34_3 := blk_frozen BK139.out 3; obtain ⟨Ao35, co35, eo35⟩ := Kd.R_slice HO136.out; subst eo35) | ((with_reducible refine gate_callee (f := 13) rfl ?_); refine goesL_ (some 18) rfl rfl Try.func13 (by kernel_rfl) rfl #[.int .i64 t130] rfl (by (try simp only [List.map_toArray, List.map_cons, List.map_nil]); first | done | rfl | (simp only [List.length_drop, List.length_take]; rfl)) ?_; (with_reducible refine (spindlelaw08_num.calls t130 t140 _ A3.out).mono ?_); rintro e w' ⟨rfl, ⟨nd, rfl⟩⟩; refine ⟨_, rfl, ?_⟩) | (go_at_call 13; (with_reducible refine (spindlelaw08_num.calls t138 t141 _ A6.out).mono ?_); rintro e w' ⟨rfl, ⟨nd, rfl⟩⟩))
            go_ret
            exact ⟨by first | rfl | (simp [errW_none, errW_some] <;> rfl) | (simp [*, errW_none, errW_some] <;> rfl) | (exfalso; simp_all; done), by repeat (first | (with_reducible first | exact HB.out | apply below_alloc | apply pw_below_drewN | apply below_drew1 | refine below_set ?_ GE139.out) | exact HB.out)⟩
        · rw [if_neg c8] at H
          have c8b0 : (t137 == 16) = false := beq_eq_false_iff_ne.mpr c8
          have c8b1 : (t137 != 16) = true := bne_iff_ne.mpr c8
          obtain rfl := Option.some.inj H
          go_enter Try.func18, Try.ntmps18
          go_wp2_with (first | ((with_reducible refine gate_callee (f := 20) rfl ?_); refine goesL_ (some 8) rfl rfl Try.func20 (by kernel_rfl) rfl #[.agg #[.int .u32 3, .int .u32 0, .bool false, .slice none 0 0]] rfl (by (try simp only [List.map_toArray, List.map_cons, List.map_nil]); first | done | rfl | (simp only [List.length_drop, List.length_take]; rfl)) ?_; (refine (wire_EncodeOption.calls 3 0 false _ _ ([] : List Int) t127 t130 _ ?side1 ?side2 A1.out).mono ?_); (case side1 => exact Kd.C_nil _ _); (case side2 => exact Nat.le_refl _); rintro e w36 ⟨v128, rfl, ho0, hb⟩; refine ⟨_, rfl, ?_⟩; have n0_ := Aside0.mk (Kd.R_lower ho0 (below_size (by repeat (first | (with_reducible first | exact HB.out | apply below_alloc | apply pw_below_drewN | apply below_drew1) | exact HB.out)))); have n1_ := Aside0.mk (below_step (by repeat (first | (with_reducible first | exact HB.out | apply below_alloc | apply pw_below_drewN | apply below_drew1) | exact HB.out)) hb); clear HB; have HO129 := n0_; have HB := n1_; clear n0_ n1_; (try clear hb); (try clear hb2); (try clear hk); (try clear hi); (try clear ho0); obtain ⟨Ao37, co37, eo37⟩ := Kd.R_slice HO129.out; subst eo37) | ((with_reducible refine gate_callee (f := 49) rfl ?_); refine goesL_ (some 13) rfl rfl Try.func49 (by kernel_rfl) rfl #[.slice Ao37 t127.length co37, .int .u32 0] rfl (by (try simp only [List.map_toArray, List.map_cons, List.map_nil]); first | done | rfl | (simp only [List.length_drop, List.length_take]; rfl)) ?_; (with_reducible refine (wire_DecodeOption.calls _ _ t127 0 t131 t132 t133 t134 t137 t138 _ ?side1 ?side2 A2.out).mono ?_); (case side1 => repeat (first | exact (Kd.R_reads' HO129.out).2.2 | (with_reducible refine Kd.C_alloc ?_ _) | (with_reducible refine Kd.C_drewN ?_ _) | (with_reducible refine Kd.C_drew ?_))); (case side2 => exact (Kd.R_reads' HO129.out).2.1); rintro e w38 ⟨v135, rfl, ho0, hb⟩; refine ⟨_, rfl, ?_⟩; have n0_ := Aside0.mk (Kd.R_elder' (by (with_reducible repeat (first | apply Kd.R_alloc | apply Kd.R_drewN | apply Kd.R_drew)); exact HO129.out) (Kd.R_base ho0) hb); have n1_ := Aside0.mk (Kd.R_lower (Kd.R_new' ho0 (Kd.R_lt (by (with_reducible repeat (first | apply Kd.R_alloc | apply Kd.R_drewN | apply Kd.R_drew)); exact HO129.out))) (below_size (by repeat (first | (with_reducible first | exact HB.out | apply below_alloc | apply pw_below_drewN | apply below_drew1) | exact HB.out)))); have n2_ := Aside0.mk (below_step (by repeat (first | (with_reducible first | exact HB.out | apply below_alloc | apply pw_below_drewN | apply below_drew1) | exact HB.out)) hb); clear HO129; clear HB; have HO129 := n0_; have HO136 := n1_; have HB := n2_; clear n0_ n1_ n2_; (try clear hb); (try clear hb2); (try clear hk); (try clear hi); (try clear ho0)) | ((with_reducible refine gate_dst (N := 3) rfl ?_); (try (refine gate_guard (by rfl) ?_; dsimp only)); refine box_event ?hg (N := 3) ?hd (cs := #[.int .u32 0, .int .u32 0, .bool false, .slice none 0 0]) (t := 33) ?hr ?_; (case hd => rfl); (case hg => rfl); (case hr => first | (go_simp; done) | (go_simp; rfl)); intro gb139 hg w39 hbox hb; have n0_ := Aside0.mk (Kd.R_below (by (with_reducible repeat (first | apply Kd.R_alloc | apply Kd.R_drewN | apply Kd.R_drew)); exact HO129.out) hb); have n1_ := Aside0.mk (Kd.R_below (by (with_reducible repeat (first | apply Kd.R_alloc | apply Kd.R_drewN | apply Kd.R_drew)); exact HO136.out) hb); have n2_ := Aside0.mk (below_step (by repeat (first | (with_reducible first | exact HB.out | apply below_alloc | apply pw_below_drewN | apply below_drew1) | exact HB.out)) hb); have n3_ := Aside0.mk (hbox); have n4_ := Aside0.mk ((by rw [hg]; exact (below_size (by repeat (first | (with_reducible first | exact HB.out | apply below_alloc | apply pw_below_drewN | apply below_drew1) | exact HB.out))) : w.heap.size ≤ gb139)); have n5_ := Aside0.mk ((by rw [hg]; exact (below_size (by repeat (first | (with_reducible first | exact HB.out | apply below_alloc | apply pw_below_drewN | apply below_drew1) | exact HB.out))) : w.heap.size ≤ gb139)); clear HO129; clear HO136; clear HB; have HO129 := n0_; have HO136 := n1_; have HB := n2_; have BK139 := n3_; have GW139 := n4_; have GE139 := n5_; clear n0_ n1_ n2_ n3_ n4_ n5_; clear hb hbox hg; have hcz40_0 : w39.cell? ⟨gb139, 0, none⟩ = some (.int .u32 0) := (blk_cell BK139.out 0).trans rfl; have hcz40_1 : w39.cell? ⟨gb139, 1, none⟩ = some (.int .u32 0) := (blk_cell BK139.out 1).trans rfl; have hcz40_2 : w39.cell? ⟨gb139, 2, none⟩ = some (.bool false) := (blk_cell BK139.out 2).trans rfl; have hcz40_3 : w39.cell? ⟨gb139, 3, none⟩ = some (.slice none 0 0) := (blk_cell BK139.out 3).trans rfl; have hfz40_0 := blk_frozen BK139.out 0; have hfz40_1 := blk_frozen BK139.out 1; have hfz40_2 := blk_frozen BK139.out 2; have hfz40_3 := blk_frozen BK139.out 3; obtain ⟨Ao41, co41, eo41⟩ := Kd.R_slice HO136.out; subst eo41) | ((with_reducible refine gate_callee (f := 13) rfl ?_); refine goesL_ (some 18) rfl rfl Try.func13 (by kernel_rfl) rfl #[.int .i64 t130] rfl (by (try simp only [List.map_toArray, List.map_cons, List.map_nil]); first | done | rfl | (simp only [List.length_drop, List.length_take]; rfl)) ?_; (with_reducible refine (spindlelaw08_num.calls t130 t140 _ A3.out).mono ?_); rintro e w' ⟨rfl, ⟨nd, rfl⟩⟩; refine ⟨_, rfl, ?_⟩) | (go_at_call 13; (with_reducible refine (spindlelaw08_num.calls t138 t141 _ A6.out).mono ?_); rintro e w' ⟨rfl, ⟨nd, rfl⟩⟩))
          go_ret
          exact ⟨by first | rfl | (simp [errW_none, errW_some] <;> rfl) | (simp [*, errW_none, errW_some] <;> rfl) | (exfalso; simp_all; done), by repeat (first | (with_reducible first | exact HB.out | apply below_alloc | apply pw_below_drewN | apply below_drew1 | refine below_set ?_ GE139.out) | exact HB.out)⟩
      · rw [if_neg c7] at H
        have c7b0 : (t141 == 0) = false := beq_eq_false_iff_ne.mpr c7
        have c7b1 : (t141 != 0) = true := bne_iff_ne.mpr c7
        obtain rfl := Option.some.inj H
        go_enter Try.func18, Try.ntmps18
        go_wp2_with (first | ((with_reducible refine gate_callee (f := 20) rfl ?_); refine goesL_ (some 8) rfl rfl Try.func20 (by kernel_rfl) rfl #[.agg #[.int .u32 3, .int .u32 0, .bool false, .slice none 0 0]] rfl (by (try simp only [List.map_toArray, List.map_cons, List.map_nil]); first | done | rfl | (simp only [List.length_drop, List.length_take]; rfl)) ?_; (refine (wire_EncodeOption.calls 3 0 false _ _ ([] : List Int) t127 t130 _ ?side1 ?side2 A1.out).mono ?_); (case side1 => exact Kd.C_nil _ _); (case side2 => exact Nat.le_refl _); rintro e w42 ⟨v128, rfl, ho0, hb⟩; refine ⟨_, rfl, ?_⟩; have n0_ := Aside0.mk (Kd.R_lower ho0 (below_size (by repeat (first | (with_reducible first | exact HB.out | apply below_alloc | apply pw_below_drewN | apply below_drew1) | exact HB.out)))); have n1_ := Aside0.mk (below_step (by repeat (first | (with_reducible first | exact HB.out | apply below_alloc | apply pw_below_drewN | apply below_drew1) | exact HB.out)) hb); clear HB; have HO129 := n0_; have HB := n1_; clear n0_ n1_; (try clear hb); (try clear hb2); (try clear hk); (try clear hi); (try clear ho0); obtain ⟨Ao43, co43, eo43⟩ := Kd.R_slice HO129.out; subst eo43) | ((with_reducible refine gate_callee (f := 49) rfl ?_); refine goesL_ (some 13) rfl rfl Try.func49 (by kernel_rfl) rfl #[.slice Ao43 t127.length co43, .int .u32 0] rfl (by (try simp only [List.map_toArray, List.map_cons, List.map_nil]); first | done | rfl | (simp only [List.length_drop, List.length_take]; rfl)) ?_; (with_reducible refine (wire_DecodeOption.calls _ _ t127 0 t131 t132 t133 t134 t137 t138 _ ?side1 ?side2 A2.out).mono ?_); (case side1 => repeat (first | exact (Kd.R_reads' HO129.out).2.2 | (with_reducible refine Kd.C_alloc ?_ _) | (with_reducible refine Kd.C_drewN ?_ _) | (with_reducible refine Kd.C_drew ?_))); (case side2 => exact (Kd.R_reads' HO129.out).2.1); rintro e w44 ⟨v135, rfl, ho0, hb⟩; refine ⟨_, rfl, ?_⟩; have n0_ := Aside0.mk (Kd.R_elder' (by (with_reducible repeat (first | apply Kd.R_alloc | apply Kd.R_drewN | apply Kd.R_drew)); exact HO129.out) (Kd.R_base ho0) hb); have n1_ := Aside0.mk (Kd.R_lower (Kd.R_new' ho0 (Kd.R_lt (by (with_reducible repeat (first | apply Kd.R_alloc | apply Kd.R_drewN | apply Kd.R_drew)); exact HO129.out))) (below_size (by repeat (first | (with_reducible first | exact HB.out | apply below_alloc | apply pw_below_drewN | apply below_drew1) | exact HB.out)))); have n2_ := Aside0.mk (below_step (by repeat (first | (with_reducible first | exact HB.out | apply below_alloc | apply pw_below_drewN | apply below_drew1) | exact HB.out)) hb); clear HO129; clear HB; have HO129 := n0_; have HO136 := n1_; have HB := n2_; clear n0_ n1_ n2_; (try clear hb); (try clear hb2); (try clear hk); (try clear hi); (try clear ho0)) | ((with_reducible refine gate_dst (N := 3) rfl ?_); (try (refine gate_guard (by rfl) ?_; dsimp only)); refine box_event ?hg (N := 3) ?hd (cs := #[.int .u32 0, .int .u32 0, .bool false, .slice none 0 0]) (t := 33) ?hr ?_; (case hd => rfl); (case hg => rfl); (case hr => first | (go_simp; done) | (go_simp; rfl)); intro gb139 hg w45 hbox hb; have n0_ := Aside0.mk (Kd.R_below (by (with_reducible repeat (first | apply Kd.R_alloc | apply Kd.R_drewN | apply Kd.R_drew)); exact HO129.out) hb); have n1_ := Aside0.mk (Kd.R_below (by (with_reducible repeat (first | apply Kd.R_alloc | apply Kd.R_drewN | apply Kd.R_drew)); exact HO136.out) hb); have n2_ := Aside0.mk (below_step (by repeat (first | (with_reducible first | exact HB.out | apply below_alloc | apply pw_below_drewN | apply below_drew1) | exact HB.out)) hb); have n3_ := Aside0.mk (hbox); have n4_ := Aside0.mk ((by rw [hg]; exact (below_size (by repeat (first | (with_reducible first | exact HB.out | apply below_alloc | apply pw_below_drewN | apply below_drew1) | exact HB.out))) : w.heap.size ≤ gb139)); have n5_ := Aside0.mk ((by rw [hg]; exact (below_size (by repeat (first | (with_reducible first | exact HB.out | apply below_alloc | apply pw_below_drewN | apply below_drew1) | exact HB.out))) : w.heap.size ≤ gb139)); clear HO129; clear HO136; clear HB; have HO129 := n0_; have HO136 := n1_; have HB := n2_; have BK139 := n3_; have GW139 := n4_; have GE139 := n5_; clear n0_ n1_ n2_ n3_ n4_ n5_; clear hb hbox hg; have hcz46_0 : w45.cell? ⟨gb139, 0, none⟩ = some (.int .u32 0) := (blk_cell BK139.out 0).trans rfl; have hcz46_1 : w45.cell? ⟨gb139, 1, none⟩ = some (.int .u32 0) := (blk_cell BK139.out 1).trans rfl; have hcz46_2 : w45.cell? ⟨gb139, 2, none⟩ = some (.bool false) := (blk_cell BK139.out 2).trans rfl; have hcz46_3 : w45.cell? ⟨gb139, 3, none⟩ = some (.slice none 0 0) := (blk_cell BK139.out 3).trans rfl; have hfz46_0 := blk_frozen BK139.out 0; have hfz46_1 := blk_frozen BK139.out 1; have hfz46_2 := blk_frozen BK139.out 2; have hfz46_3 := blk_frozen BK139.out 3; obtain ⟨Ao47, co47, eo47⟩ := Kd.R_slice HO136.out; subst eo47) | ((with_reducible refine gate_callee (f := 13) rfl ?_); refine goesL_ (some 18) rfl rfl Try.func13 (by kernel_rfl) rfl #[.int .i64 t130] rfl (by (try simp only [List.map_toArray, List.map_cons, List.map_nil]); first | done | rfl | (simp only [List.length_drop, List.length_take]; rfl)) ?_; (with_reducible refine (spindlelaw08_num.calls t130 t140 _ A3.out).mono ?_); rintro e w' ⟨rfl, ⟨nd, rfl⟩⟩; refine ⟨_, rfl, ?_⟩) | (go_at_call 13; (with_reducible refine (spindlelaw08_num.calls t138 t141 _ A6.out).mono ?_); rintro e w' ⟨rfl, ⟨nd, rfl⟩⟩))
        go_ret
        exact ⟨by first | rfl | (simp [errW_none, errW_some] <;> rfl) | (simp [*, errW_none, errW_some] <;> rfl) | (exfalso; simp_all; done), by repeat (first | (with_reducible first | exact HB.out | apply below_alloc | apply pw_below_drewN | apply below_drew1 | refine below_set ?_ GE139.out) | exact HB.out)⟩
    · rw [if_neg c5] at H
      have c5b0 : ((t127.length : Int) == 16) = false := beq_eq_false_iff_ne.mpr c5
      have c5b1 : ((t127.length : Int) != 16) = true := bne_iff_ne.mpr c5
      obtain rfl := Option.some.inj H
      go_enter Try.func18, Try.ntmps18
      go_wp2_with (first | ((with_reducible refine gate_callee (f := 20) rfl ?_); refine goesL_ (some 8) rfl rfl Try.func20 (by kernel_rfl) rfl #[.agg #[.int .u32 3, .int .u32 0, .bool false, .slice none 0 0]] rfl (by (try simp only [List.map_toArray, List.map_cons, List.map_nil]); first | done | rfl | (simp only [List.length_drop, List.length_take]; rfl)) ?_; (refine (wire_EncodeOption.calls 3 0 false _ _ ([] : List Int) t127 t130 _ ?side1 ?side2 A1.out).mono ?_); (case side1 => exact Kd.C_nil _ _); (case side2 => exact Nat.le_refl _); rintro e w48 ⟨v128, rfl, ho0, hb⟩; refine ⟨_, rfl, ?_⟩; have n0_ := Aside0.mk (Kd.R_lower ho0 (below_size (by repeat (first | (with_reducible first | exact HB.out | apply below_alloc | apply pw_below_drewN | apply below_drew1) | exact HB.out)))); have n1_ := Aside0.mk (below_step (by repeat (first | (with_reducible first | exact HB.out | apply below_alloc | apply pw_below_drewN | apply below_drew1) | exact HB.out)) hb); clear HB; have HO129 := n0_; have HB := n1_; clear n0_ n1_; (try clear hb); (try clear hb2); (try clear hk); (try clear hi); (try clear ho0); obtain ⟨Ao49, co49, eo49⟩ := Kd.R_slice HO129.out; subst eo49) | ((with_reducible refine gate_callee (f := 49) rfl ?_); refine goesL_ (some 13) rfl rfl Try.func49 (by kernel_rfl) rfl #[.slice Ao49 t127.length co49, .int .u32 0] rfl (by (try simp only [List.map_toArray, List.map_cons, List.map_nil]); first | done | rfl | (simp only [List.length_drop, List.length_take]; rfl)) ?_; (with_reducible refine (wire_DecodeOption.calls _ _ t127 0 t131 t132 t133 t134 t137 t138 _ ?side1 ?side2 A2.out).mono ?_); (case side1 => repeat (first | exact (Kd.R_reads' HO129.out).2.2 | (with_reducible refine Kd.C_alloc ?_ _) | (with_reducible refine Kd.C_drewN ?_ _) | (with_reducible refine Kd.C_drew ?_))); (case side2 => exact (Kd.R_reads' HO129.out).2.1); rintro e w50 ⟨v135, rfl, ho0, hb⟩; refine ⟨_, rfl, ?_⟩; have n0_ := Aside0.mk (Kd.R_elder' (by (with_reducible repeat (first | apply Kd.R_alloc | apply Kd.R_drewN | apply Kd.R_drew)); exact HO129.out) (Kd.R_base ho0) hb); have n1_ := Aside0.mk (Kd.R_lower (Kd.R_new' ho0 (Kd.R_lt (by (with_reducible repeat (first | apply Kd.R_alloc | apply Kd.R_drewN | apply Kd.R_drew)); exact HO129.out))) (below_size (by repeat (first | (with_reducible first | exact HB.out | apply below_alloc | apply pw_below_drewN | apply below_drew1) | exact HB.out)))); have n2_ := Aside0.mk (below_step (by repeat (first | (with_reducible first | exact HB.out | apply below_alloc | apply pw_below_drewN | apply below_drew1) | exact HB.out)) hb); clear HO129; clear HB; have HO129 := n0_; have HO136 := n1_; have HB := n2_; clear n0_ n1_ n2_; (try clear hb); (try clear hb2); (try clear hk); (try clear hi); (try clear ho0)) | ((with_reducible refine gate_dst (N := 3) rfl ?_); (try (refine gate_guard (by rfl) ?_; dsimp only)); refine box_event ?hg (N := 3) ?hd (cs := #[.int .u32 0, .int .u32 0, .bool false, .slice none 0 0]) (t := 33) ?hr ?_; (case hd => rfl); (case hg => rfl); (case hr => first | (go_simp; done) | (go_simp; rfl)); intro gb139 hg w51 hbox hb; have n0_ := Aside0.mk (Kd.R_below (by (with_reducible repeat (first | apply Kd.R_alloc | apply Kd.R_drewN | apply Kd.R_drew)); exact HO129.out) hb); have n1_ := Aside0.mk (Kd.R_below (by (with_reducible repeat (first | apply Kd.R_alloc | apply Kd.R_drewN | apply Kd.R_drew)); exact HO136.out) hb); have n2_ := Aside0.mk (below_step (by repeat (first | (with_reducible first | exact HB.out | apply below_alloc | apply pw_below_drewN | apply below_drew1) | exact HB.out)) hb); have n3_ := Aside0.mk (hbox); have n4_ := Aside0.mk ((by rw [hg]; exact (below_size (by repeat (first | (with_reducible first | exact HB.out | apply below_alloc | apply pw_below_drewN | apply below_drew1) | exact HB.out))) : w.heap.size ≤ gb139)); have n5_ := Aside0.mk ((by rw [hg]; exact (below_size (by repeat (first | (with_reducible first | exact HB.out | apply below_alloc | apply pw_below_drewN | apply below_drew1) | exact HB.out))) : w.heap.size ≤ gb139)); clear HO129; clear HO136; clear HB; have HO129 := n0_; have HO136 := n1_; have HB := n2_; have BK139 := n3_; have GW139 := n4_; have GE139 := n5_; clear n0_ n1_ n2_ n3_ n4_ n5_; clear hb hbox hg; have hcz52_0 : w51.cell? ⟨gb139, 0, none⟩ = some (.int .u32 0) := (blk_cell BK139.out 0).trans rfl; have hcz52_1 : w51.cell? ⟨gb139, 1, none⟩ = some (.int .u32 0) := (blk_cell BK139.out 1).trans rfl; have hcz52_2 : w51.cell? ⟨gb139, 2, none⟩ = some (.bool false) := (blk_cell BK139.out 2).trans rfl; have hcz52_3 : w51.cell? ⟨gb139, 3, none⟩ = some (.slice none 0 0) := (blk_cell BK139.out 3).trans rfl; have hfz52_0 := blk_frozen BK139.out 0; have hfz52_1 := blk_frozen BK139.out 1; have hfz52_2 := blk_frozen BK139.out 2; have hfz52_3 := blk_frozen BK139.out 3; obtain ⟨Ao53, co53, eo53⟩ := Kd.R_slice HO136.out; subst eo53) | ((with_reducible refine gate_callee (f := 13) rfl ?_); refine goesL_ (some 18) rfl rfl Try.func13 (by kernel_rfl) rfl #[.int .i64 t130] rfl (by (try simp only [List.map_toArray, List.map_cons, List.map_nil]); first | done | rfl | (simp only [List.length_drop, List.length_take]; rfl)) ?_; (with_reducible refine (spindlelaw08_num.calls t130 t140 _ A3.out).mono ?_); rintro e w' ⟨rfl, ⟨nd, rfl⟩⟩; refine ⟨_, rfl, ?_⟩))
      go_ret
      exact ⟨by first | rfl | (simp [errW_none, errW_some] <;> rfl) | (simp [*, errW_none, errW_some] <;> rfl) | (exfalso; simp_all; done), by repeat (first | (with_reducible first | exact HB.out | apply below_alloc | apply pw_below_drewN | apply below_drew1 | refine below_set ?_ GE139.out) | exact HB.out)⟩
  · rw [if_neg c4] at H
    have c4b0 : (t140 == 0) = false := beq_eq_false_iff_ne.mpr c4
    have c4b1 : (t140 != 0) = true := bne_iff_ne.mpr c4
    obtain rfl := Option.some.inj H
    go_enter Try.func18, Try.ntmps18
    go_wp2_with (first | ((with_reducible refine gate_callee (f := 20) rfl ?_); refine goesL_ (some 8) rfl rfl Try.func20 (by kernel_rfl) rfl #[.agg #[.int .u32 3, .int .u32 0, .bool false, .slice none 0 0]] rfl (by (try simp only [List.map_toArray, List.map_cons, List.map_nil]); first | done | rfl | (simp only [List.length_drop, List.length_take]; rfl)) ?_; (refine (wire_EncodeOption.calls 3 0 false _ _ ([] : List Int) t127 t130 _ ?side1 ?side2 A1.out).mono ?_); (case side1 => exact Kd.C_nil _ _); (case side2 => exact Nat.le_refl _); rintro e w54 ⟨v128, rfl, ho0, hb⟩; refine ⟨_, rfl, ?_⟩; have n0_ := Aside0.mk (Kd.R_lower ho0 (below_size (by repeat (first | (with_reducible first | exact HB.out | apply below_alloc | apply pw_below_drewN | apply below_drew1) | exact HB.out)))); have n1_ := Aside0.mk (below_step (by repeat (first | (with_reducible first | exact HB.out | apply below_alloc | apply pw_below_drewN | apply below_drew1) | exact HB.out)) hb); clear HB; have HO129 := n0_; have HB := n1_; clear n0_ n1_; (try clear hb); (try clear hb2); (try clear hk); (try clear hi); (try clear ho0); obtain ⟨Ao55, co55, eo55⟩ := Kd.R_slice HO129.out; subst eo55) | ((with_reducible refine gate_callee (f := 49) rfl ?_); refine goesL_ (some 13) rfl rfl Try.func49 (by kernel_rfl) rfl #[.slice Ao55 t127.length co55, .int .u32 0] rfl (by (try simp only [List.map_toArray, List.map_cons, List.map_nil]); first | done | rfl | (simp only [List.length_drop, List.length_take]; rfl)) ?_; (with_reducible refine (wire_DecodeOption.calls _ _ t127 0 t131 t132 t133 t134 t137 t138 _ ?side1 ?side2 A2.out).mono ?_); (case side1 => repeat (first | exact (Kd.R_reads' HO129.out).2.2 | (with_reducible refine Kd.C_alloc ?_ _) | (with_reducible refine Kd.C_drewN ?_ _) | (with_reducible refine Kd.C_drew ?_))); (case side2 => exact (Kd.R_reads' HO129.out).2.1); rintro e w56 ⟨v135, rfl, ho0, hb⟩; refine ⟨_, rfl, ?_⟩; have n0_ := Aside0.mk (Kd.R_elder' (by (with_reducible repeat (first | apply Kd.R_alloc | apply Kd.R_drewN | apply Kd.R_drew)); exact HO129.out) (Kd.R_base ho0) hb); have n1_ := Aside0.mk (Kd.R_lower (Kd.R_new' ho0 (Kd.R_lt (by (with_reducible repeat (first | apply Kd.R_alloc | apply Kd.R_drewN | apply Kd.R_drew)); exact HO129.out))) (below_size (by repeat (first | (with_reducible first | exact HB.out | apply below_alloc | apply pw_below_drewN | apply below_drew1) | exact HB.out)))); have n2_ := Aside0.mk (below_step (by repeat (first | (with_reducible first | exact HB.out | apply below_alloc | apply pw_below_drewN | apply below_drew1) | exact HB.out)) hb); clear HO129; clear HB; have HO129 := n0_; have HO136 := n1_; have HB := n2_; clear n0_ n1_ n2_; (try clear hb); (try clear hb2); (try clear hk); (try clear hi); (try clear ho0)) | ((with_reducible refine gate_dst (N := 3) rfl ?_); (try (refine gate_guard (by rfl) ?_; dsimp only)); refine box_event ?hg (N := 3) ?hd (cs := #[.int .u32 0, .int .u32 0, .bool false, .slice none 0 0]) (t := 33) ?hr ?_; (case hd => rfl); (case hg => rfl); (case hr => first | (go_simp; done) | (go_simp; rfl)); intro gb139 hg w57 hbox hb; have n0_ := Aside0.mk (Kd.R_below (by (with_reducible repeat (first | apply Kd.R_alloc | apply Kd.R_drewN | apply Kd.R_drew)); exact HO129.out) hb); have n1_ := Aside0.mk (Kd.R_below (by (with_reducible repeat (first | apply Kd.R_alloc | apply Kd.R_drewN | apply Kd.R_drew)); exact HO136.out) hb); have n2_ := Aside0.mk (below_step (by repeat (first | (with_reducible first | exact HB.out | apply below_alloc | apply pw_below_drewN | apply below_drew1) | exact HB.out)) hb); have n3_ := Aside0.mk (hbox); have n4_ := Aside0.mk ((by rw [hg]; exact (below_size (by repeat (first | (with_reducible first | exact HB.out | apply below_alloc | apply pw_below_drewN | apply below_drew1) | exact HB.out))) : w.heap.size ≤ gb139)); have n5_ := Aside0.mk ((by rw [hg]; exact (below_size (by repeat (first | (with_reducible first | exact HB.out | apply below_alloc | apply pw_below_drewN | apply below_drew1) | exact HB.out))) : w.heap.size ≤ gb139)); clear HO129; clear HO136; clear HB; have HO129 := n0_; have HO136 := n1_; have HB := n2_; have BK139 := n3_; have GW139 := n4_; have GE139 := n5_; clear n0_ n1_ n2_ n3_ n4_ n5_; clear hb hbox hg; have hcz58_0 : w57.cell? ⟨gb139, 0, none⟩ = some (.int .u32 0) := (blk_cell BK139.out 0).trans rfl; have hcz58_1 : w57.cell? ⟨gb139, 1, none⟩ = some (.int .u32 0) := (blk_cell BK139.out 1).trans rfl; have hcz58_2 : w57.cell? ⟨gb139, 2, none⟩ = some (.bool false) := (blk_cell BK139.out 2).trans rfl; have hcz58_3 : w57.cell? ⟨gb139, 3, none⟩ = some (.slice none 0 0) := (blk_cell BK139.out 3).trans rfl; have hfz58_0 := blk_frozen BK139.out 0; have hfz58_1 := blk_frozen BK139.out 1; have hfz58_2 := blk_frozen BK139.out 2; have hfz58_3 := blk_frozen BK139.out 3; obtain ⟨Ao59, co59, eo59⟩ := Kd.R_slice HO136.out; subst eo59) | ((with_reducible refine gate_callee (f := 13) rfl ?_); refine goesL_ (some 18) rfl rfl Try.func13 (by kernel_rfl) rfl #[.int .i64 t130] rfl (by (try simp only [List.map_toArray, List.map_cons, List.map_nil]); first | done | rfl | (simp only [List.length_drop, List.length_take]; rfl)) ?_; (with_reducible refine (spindlelaw08_num.calls t130 t140 _ A3.out).mono ?_); rintro e w' ⟨rfl, ⟨nd, rfl⟩⟩; refine ⟨_, rfl, ?_⟩))
    go_ret
    exact ⟨by first | rfl | (simp [errW_none, errW_some] <;> rfl) | (simp [*, errW_none, errW_some] <;> rfl) | (exfalso; simp_all; done), by repeat (first | (with_reducible first | exact HB.out | apply below_alloc | apply pw_below_drewN | apply below_drew1 | refine below_set ?_ GE139.out) | exact HB.out)⟩

/-! ### spindleref01_Same: function 97 -/
def spindleref01_Same.l0 : Nat → List Int → List Int → Int → Option (Bool)
  | 0, _, _, _ => none
  | k + 1, x0, x1, x5 => if x5 < (x0.length : Int) then (if 0 ≤ x5 then (if x5 < (x1.length : Int) then (if (rd x0 x5) = (rd x1 x5) then (spindleref01_Same.l0 k x0 x1 (wrap64 (x5 + 1))) else (some false)) else (none)) else (none)) else (some true)
def spindleref01_Same.f (k : Nat) (l0 : List Int) (l1 : List Int) : Option (Bool) := if (l0.length : Int) = (l1.length : Int) then (spindleref01_Same.l0 k l0 l1 0) else (some false)
theorem spindleref01_Same.mono_l : ∀ k, (∀ y0 y1 y2, LeO (spindleref01_Same.l0 k y0 y1 y2) (spindleref01_Same.l0 (k + 1) y0 y1 y2))
  | 0 => fun _ _ _ r h => by simp [spindleref01_Same.l0] at h
  | k + 1 => by
    have ih0 := spindleref01_Same.mono_l k
    · intro y0 y1 y2
      unfold spindleref01_Same.l0
      repeat' first
      | (with_reducible exact ih0 _ _ _)
      | (with_reducible exact LeO.refl _)
      | (with_reducible exact LeO.none _)
      | (with_reducible refine LeO.ite ?_ ?_)
      | (with_reducible refine LeO.bind ?_ (fun _ => ?_))
      | exact ih0 _ _ _
      | exact LeO.none _
      | refine LeO.ite ?_ ?_
      | refine LeO.bind ?_ (fun _ => ?_)
theorem spindleref01_Same.mono : ∀ a0 a1 k, LeO (spindleref01_Same.f k a0 a1) (spindleref01_Same.f (k + 1) a0 a1) := by
  intro a0 a1 k
  have ih0 := spindleref01_Same.mono_l k
  unfold spindleref01_Same.f
  repeat' first
      | (with_reducible exact ih0 _ _ _)
      | (with_reducible exact LeO.refl _)
      | (with_reducible exact LeO.none _)
      | (with_reducible refine LeO.ite ?_ ?_)
      | (with_reducible refine LeO.bind ?_ (fun _ => ?_))
      | exact ih0 _ _ _
      | exact LeO.none _
      | refine LeO.ite ?_ ?_
      | refine LeO.bind ?_ (fun _ => ?_)
set_option maxHeartbeats 8000000 in
set_option maxRecDepth 100000 in
theorem spindleref01_Same.calls (k : Nat) (A0 : Option Addr) (c0 : Nat) (l0 : List Int) (A1 : Option Addr) (c1 : Nat) (l1 : List Int) (r : Bool) (w : World) (hr0 : Kd.C (Kd.int .u8) w A0 l0.length l0) (hc0 : l0.length ≤ c0) (hr1 : Kd.C (Kd.int .u8) w A1 l1.length l1) (hc1 : l1.length ≤ c1) (h : spindleref01_Same.f k l0 l1 = some r) :
    Calls Try.prog 97 #[.slice A0 l0.length c0, .slice A1 l1.length c1] w fun e w' => e = .returned (.bool r) ∧ Drawn0 w w' := by
  have HR0 := Aside0.mk hr0
  have HC0 := Aside0.mk hc0
  clear hr0 hc0
  have HR1 := Aside0.mk hr1
  have HC1 := Aside0.mk hc1
  clear hr1 hc1
  have H : (if (l0.length : Int) = (l1.length : Int) then (spindleref01_Same.l0 k l0 l1 0) else (some false)) = some r := h
  clear h
  by_cases c3 : (l0.length : Int) = (l1.length : Int)
  · rw [if_pos c3] at H
    have c3b0 : ((l0.length : Int) == (l1.length : Int)) = true := beq_iff_eq.mpr c3
    have c3b1 : ((l0.length : Int) != (l1.length : Int)) = false := bne_eq_false_iff_eq.mpr c3
    have c3b2 : (l0.length == l1.length) = true := by first | simpa using c3 | (simp at c3 ⊢; omega)
    clear c3
    have H' := Aside0.mk H
    clear H
    go_enter Try.func97, Try.ntmps97
    go_wp2
    repeat (go_quiet (fail); try go_wp2)
    go_loopg [5] k (fun kq v5 w' => ∃ (x5_1 : Int), v5 = .int .i64 x5_1 ∧ Aside0 (spindleref01_Same.l0 kq l0 l1 x5_1 = some r) ∧ Aside0 (kq ≤ k) ∧ Drawn0 w w')
    case atStart => exact ⟨(0), (by first | rfl | (simp; done) | (simp [*]; done)), H', ⟨Nat.le_refl _⟩, by repeat (first | exact Drawn0.refl _ | apply Drawn0.step)⟩
    case round =>
      clear H'
      try clear c1
      try clear p2
      try clear c3
      try clear c3b0
      try clear c3b1
      try clear c3b2
      obtain ⟨x5_1, rfl, HA, HK1, ⟨m1, rfl⟩⟩ := hrel
      cases gk with
      | zero => exact absurd HA.out (by simp [spindleref01_Same.l0])
      | succ k1 =>
        have H := HA.out
        clear HA
        simp only [spindleref01_Same.l0] at H
        by_cases c4 : x5_1 < (l0.length : Int)
        · rw [if_pos c4] at H
          have c4b0 : decide (x5_1 < (l0.length : Int)) = true := decide_eq_true c4
          clear c4
          by_cases c5 : 0 ≤ x5_1
          · rw [if_pos c5] at H
            have c5b0 : decide (0 ≤ x5_1) = true := decide_eq_true c5
            clear c5
            by_cases c6 : x5_1 < (l1.length : Int)
            · rw [if_pos c6] at H
              have c6b0 : decide (x5_1 < (l1.length : Int)) = true := decide_eq_true c6
              clear c6
              by_cases c7 : (rd l0 x5_1) = (rd l1 x5_1)
              · rw [if_pos c7] at H
                have c7b0 : ((rd l0 x5_1) == (rd l1 x5_1)) = true := beq_iff_eq.mpr c7
                have c7b1 : ((rd l0 x5_1) != (rd l1 x5_1)) = false := bne_eq_false_iff_eq.mpr c7
                clear c7
                have H' := Aside0.mk H
                clear H
                have p146 : 0 ≤ (x5_1 : Int) := of_decide_eq_true (by first | (with_reducible assumption) | assumption)
                have q146 : x5_1 < (l0.length : Int) := of_decide_eq_true (by first | (with_reducible assumption) | assumption)
                obtain ⟨ad146, e146, hx146_0⟩ := Kd.at_int HR0.out x5_1 p146 q146
                cases e146
                replace p146 := eq_true p146
                replace q146 := eq_true q146
                have p147 : 0 ≤ (x5_1 : Int) := of_decide_eq_true (by first | (with_reducible assumption) | assumption)
                have q147 : x5_1 < (l1.length : Int) := of_decide_eq_true (by first | (with_reducible assumption) | assumption)
                obtain ⟨ad147, e147, hx147_0⟩ := Kd.at_int HR1.out x5_1 p147 q147
                cases e147
                replace p147 := eq_true p147
                replace q147 := eq_true q147
                go_wp2
                repeat (go_quiet (fail); try go_wp2)
                go_roundg k1
                case measure => have := HK1.out; omega
                case rel => exact ⟨(wrap64 (x5_1 + 1)), (by first | rfl | (simp; done) | (simp [*]; done)), H', ⟨by have := HK1.out; omega⟩, by repeat (first | exact Drawn0.refl _ | apply Drawn0.step)⟩
              · rw [if_neg c7] at H
                have c7b0 : ((rd l0 x5_1) == (rd l1 x5_1)) = false := beq_eq_false_iff_ne.mpr c7
                have c7b1 : ((rd l0 x5_1) != (rd l1 x5_1)) = true := bne_iff_ne.mpr c7
                obtain rfl := Option.some.inj H
                have p146 : 0 ≤ (x5_1 : Int) := of_decide_eq_true (by first | (with_reducible assumption) | assumption)
                have q146 : x5_1 < (l0.length : Int) := of_decide_eq_true (by first | (with_reducible assumption) | assumption)
                obtain ⟨ad146, e146, hx146_0⟩ := Kd.at_int HR0.out x5_1 p146 q146
                cases e146
                replace p146 := eq_true p146
                replace q146 := eq_true q146
                have p147 : 0 ≤ (x5_1 : Int) := of_decide_eq_true (by first | (with_reducible assumption) | assumption)
                have q147 : x5_1 < (l1.length : Int) := of_decide_eq_true (by first | (with_reducible assumption) | assumption)
                obtain ⟨ad147, e147, hx147_0⟩ := Kd.at_int HR1.out x5_1 p147 q147
                cases e147
                replace p147 := eq_true p147
                replace q147 := eq_true q147
                go_wp2
                repeat (go_quiet (fail); try go_wp2)
                go_ret
                exact ⟨by first | rfl | (simp; done) | (simp [*]; done), by repeat (first | exact Drawn0.refl _ | apply Drawn0.step)⟩
            · rw [if_neg c6] at H
              exact absurd H (by simp)
          · rw [if_neg c5] at H
            exact absurd H (by simp)
        · rw [if_neg c4] at H
          have c4b0 : decide (x5_1 < (l0.length : Int)) = false := decide_eq_false c4
          clear c4
          obtain rfl := Option.some.inj H
          go_wp2
          repeat (go_quiet (fail); try go_wp2)
          go_ret
          exact ⟨by first | rfl | (simp; done) | (simp [*]; done), by repeat (first | exact Drawn0.refl _ | apply Drawn0.step)⟩
  · rw [if_neg c3] at H
    have c3b0 : ((l0.length : Int) == (l1.length : Int)) = false := beq_eq_false_iff_ne.mpr c3
    have c3b1 : ((l0.length : Int) != (l1.length : Int)) = true := bne_iff_ne.mpr c3
    have c3b2 : (l0.length == l1.length) = false := by first | simpa using c3 | (simp at c3 ⊢; omega)
    obtain rfl := Option.some.inj H
    go_enter Try.func97, Try.ntmps97
    go_wp2
    repeat (go_quiet (fail); try go_wp2)
    go_ret
    exact ⟨by first | rfl | (simp; done) | (simp [*]; done), by repeat (first | exact Drawn0.refl _ | apply Drawn0.step)⟩

/-! ### spindleref08_Same: function 73 -/
def spindleref08_Same.f (k : Nat) (l0 : List Int) (l1 : List Int) : Option (Bool) := (spindleref01_Same.f k l0 l1).bind fun t148 => (some t148)
theorem spindleref08_Same.mono : ∀ a0 a1 k, LeO (spindleref08_Same.f k a0 a1) (spindleref08_Same.f (k + 1) a0 a1) := by
  intro a0 a1 k
  unfold spindleref08_Same.f
  repeat' first
      | (with_reducible exact spindleref01_Same.mono _ _ _)
      | (with_reducible exact LeO.refl _)
      | (with_reducible exact LeO.none _)
      | (with_reducible refine LeO.ite ?_ ?_)
      | (with_reducible refine LeO.bind ?_ (fun _ => ?_))
      | exact spindleref01_Same.mono _ _ _
      | exact LeO.none _
      | refine LeO.ite ?_ ?_
      | refine LeO.bind ?_ (fun _ => ?_)
set_option maxHeartbeats 8000000 in
set_option maxRecDepth 100000 in
theorem spindleref08_Same.calls (k : Nat) (A0 : Option Addr) (c0 : Nat) (l0 : List Int) (A1 : Option Addr) (c1 : Nat) (l1 : List Int) (r : Bool) (w : World) (hr0 : Kd.C (Kd.int .u8) w A0 l0.length l0) (hc0 : l0.length ≤ c0) (hr1 : Kd.C (Kd.int .u8) w A1 l1.length l1) (hc1 : l1.length ≤ c1) (h : spindleref08_Same.f k l0 l1 = some r) :
    Calls Try.prog 73 #[.slice A0 l0.length c0, .slice A1 l1.length c1] w fun e w' => e = .returned (.bool r) ∧ Drawn0 w w' := by
  have HR0 := Aside0.mk hr0
  have HC0 := Aside0.mk hc0
  clear hr0 hc0
  have HR1 := Aside0.mk hr1
  have HC1 := Aside0.mk hc1
  clear hr1 hc1
  have H : ((spindleref01_Same.f k l0 l1).bind fun t148 => (some t148)) = some r := h
  clear h
  replace H := Option.bind_eq_some_iff.mp H
  obtain ⟨t148, A30, H⟩ := H
  replace H : (some t148) = some r := H
  have A3 := Aside0.mk A30
  clear A30
  obtain rfl := Option.some.inj H
  go_enter Try.func73, Try.ntmps73
  go_wp2_with (first | ((with_reducible refine gate_callee (f := 97) rfl ?_); refine goesL_ (some 7) rfl rfl Try.func97 (by kernel_rfl) rfl #[.slice A0 l0.length c0, .slice A1 l1.length c1] rfl (by (try simp only [List.map_toArray, List.map_cons, List.map_nil]); first | done | rfl | (simp only [List.length_drop, List.length_take]; rfl)) ?_; (with_reducible refine (spindleref01_Same.calls k _ _ l0 _ _ l1 t148 _ ?side1 ?side2 ?side3 ?side4 A3.out).mono ?_); (case side1 => repeat (first | exact HR0.out | (with_reducible refine Kd.C_alloc ?_ _) | (with_reducible refine Kd.C_drewN ?_ _) | (with_reducible refine Kd.C_drew ?_))); (case side2 => exact HC0.out); (case side3 => repeat (first | exact HR1.out | (with_reducible refine Kd.C_alloc ?_ _) | (with_reducible refine Kd.C_drewN ?_ _) | (with_reducible refine Kd.C_drew ?_))); (case side4 => exact HC1.out); rintro e w' ⟨rfl, ⟨nd, rfl⟩⟩; refine ⟨_, rfl, ?_⟩))
  go_ret
  exact ⟨by first | rfl | (simp; done) | (simp [*]; done), by repeat (first | exact Drawn0.refl _ | apply Drawn0.step)⟩

/-! ### spindlelaw08_same: function 26 -/
def spindlelaw08_same.f (k : Nat) (l0 : List Int) (l1 : List Int) : Option (Bool) := (spindleref08_Same.f k l0 l1).bind fun t149 => (some t149)
theorem spindlelaw08_same.mono : ∀ a0 a1 k, LeO (spindlelaw08_same.f k a0 a1) (spindlelaw08_same.f (k + 1) a0 a1) := by
  intro a0 a1 k
  unfold spindlelaw08_same.f
  repeat' first
      | (with_reducible exact spindleref08_Same.mono _ _ _)
      | (with_reducible exact LeO.refl _)
      | (with_reducible exact LeO.none _)
      | (with_reducible refine LeO.ite ?_ ?_)
      | (with_reducible refine LeO.bind ?_ (fun _ => ?_))
      | exact spindleref08_Same.mono _ _ _
      | exact LeO.none _
      | refine LeO.ite ?_ ?_
      | refine LeO.bind ?_ (fun _ => ?_)
set_option maxHeartbeats 8000000 in
set_option maxRecDepth 100000 in
theorem spindlelaw08_same.calls (k : Nat) (A0 : Option Addr) (c0 : Nat) (l0 : List Int) (A1 : Option Addr) (c1 : Nat) (l1 : List Int) (r : Bool) (w : World) (hr0 : Kd.C (Kd.int .u8) w A0 l0.length l0) (hc0 : l0.length ≤ c0) (hr1 : Kd.C (Kd.int .u8) w A1 l1.length l1) (hc1 : l1.length ≤ c1) (h : spindlelaw08_same.f k l0 l1 = some r) :
    Calls Try.prog 26 #[.slice A0 l0.length c0, .slice A1 l1.length c1] w fun e w' => e = .returned (.bool r) ∧ Drawn0 w w' := by
  have HR0 := Aside0.mk hr0
  have HC0 := Aside0.mk hc0
  clear hr0 hc0
  have HR1 := Aside0.mk hr1
  have HC1 := Aside0.mk hc1
  clear hr1 hc1
  have H : ((spindleref08_Same.f k l0 l1).bind fun t149 => (some t149)) = some r := h
  clear h
  replace H := Option.bind_eq_some_iff.mp H
  obtain ⟨t149, A30, H⟩ := H
  replace H : (some t149) = some r := H
  have A3 := Aside0.mk A30
  clear A30
  obtain rfl := Option.some.inj H
  go_enter Try.func26, Try.ntmps26
  go_wp2_with (first | ((with_reducible refine gate_callee (f := 73) rfl ?_); refine goesL_ (some 7) rfl rfl Try.func73 (by kernel_rfl) rfl #[.slice A0 l0.length c0, .slice A1 l1.length c1] rfl (by (try simp only [List.map_toArray, List.map_cons, List.map_nil]); first | done | rfl | (simp only [List.length_drop, List.length_take]; rfl)) ?_; (with_reducible refine (spindleref08_Same.calls k _ _ l0 _ _ l1 t149 _ ?side1 ?side2 ?side3 ?side4 A3.out).mono ?_); (case side1 => repeat (first | exact HR0.out | (with_reducible refine Kd.C_alloc ?_ _) | (with_reducible refine Kd.C_drewN ?_ _) | (with_reducible refine Kd.C_drew ?_))); (case side2 => exact HC0.out); (case side3 => repeat (first | exact HR1.out | (with_reducible refine Kd.C_alloc ?_ _) | (with_reducible refine Kd.C_drewN ?_ _) | (with_reducible refine Kd.C_drew ?_))); (case side4 => exact HC1.out); rintro e w' ⟨rfl, ⟨nd, rfl⟩⟩; refine ⟨_, rfl, ?_⟩))
  go_ret
  exact ⟨by first | rfl | (simp; done) | (simp [*]; done), by repeat (first | exact Drawn0.refl _ | apply Drawn0.step)⟩

-- wire_EncodeFlags: by hand

-- wire_EncodeExport: by hand

-- wire_EncodeSimple: by hand

/-! ### spindleref01_Big: function 75 -/
def spindleref01_Big.l0 : Nat → Int → List Int → Int → Option (List Int)
  | 0, _, _, _ => none
  | k + 1, x0, x5, x6 => if x6 ≥ 0 then (if 0 ≤ x6 then (if x6 < (x5.length : Int) then (spindleref01_Big.l0 k (x0 / 256) (x5.set (x6 : Int).toNat ((x0) % 256)) (wrap64 (x6 - 1))) else (none)) else (none)) else (some x5)
def spindleref01_Big.f (k : Nat) (a0 : Int) (a1 : Int) : Option (List Int) := if 0 ≤ a1 then (if (a1 : Int).toNat ≤ 281474976710656 then (spindleref01_Big.l0 k a0 (List.replicate (a1 : Int).toNat 0) (wrap64 (a1 - 1))) else (none)) else (none)
theorem spindleref01_Big.mono_l : ∀ k, (∀ y0 y1 y2, LeO (spindleref01_Big.l0 k y0 y1 y2) (spindleref01_Big.l0 (k + 1) y0 y1 y2))
  | 0 => fun _ _ _ r h => by simp [spindleref01_Big.l0] at h
  | k + 1 => by
    have ih0 := spindleref01_Big.mono_l k
    · intro y0 y1 y2
      unfold spindleref01_Big.l0
      repeat' first
      | (with_reducible exact ih0 _ _ _)
      | (with_reducible exact LeO.refl _)
      | (with_reducible exact LeO.none _)
      | (with_reducible refine LeO.ite ?_ ?_)
      | (with_reducible refine LeO.bind ?_ (fun _ => ?_))
      | exact ih0 _ _ _
      | exact LeO.none _
      | refine LeO.ite ?_ ?_
      | refine LeO.bind ?_ (fun _ => ?_)
theorem spindleref01_Big.mono : ∀ a0 a1 k, LeO (spindleref01_Big.f k a0 a1) (spindleref01_Big.f (k + 1) a0 a1) := by
  intro a0 a1 k
  have ih0 := spindleref01_Big.mono_l k
  unfold spindleref01_Big.f
  repeat' first
      | (with_reducible exact ih0 _ _ _)
      | (with_reducible exact LeO.refl _)
      | (with_reducible exact LeO.none _)
      | (with_reducible refine LeO.ite ?_ ?_)
      | (with_reducible refine LeO.bind ?_ (fun _ => ?_))
      | exact ih0 _ _ _
      | exact LeO.none _
      | refine LeO.ite ?_ ?_
      | refine LeO.bind ?_ (fun _ => ?_)
set_option maxHeartbeats 8000000 in
set_option maxRecDepth 100000 in
theorem spindleref01_Big.calls (k : Nat) (a0 : Int) (a1 : Int) (r : List Int) (w : World) (h : spindleref01_Big.f k a0 a1 = some r) :
    Calls Try.prog 75 #[.int .u64 a0, .int .i64 a1] w fun e w' => ∃ v0_ : Value, e = .returned (v0_) ∧ Kd.R (Kd.int .u8) 5 w' w.heap.size (fun _ => True) v0_ r ∧ Below w.heap.size w w' := by
  have HB := Aside0.mk (Below.refl w.heap.size w)
  have H : (if 0 ≤ a1 then (if (a1 : Int).toNat ≤ 281474976710656 then (spindleref01_Big.l0 k a0 (List.replicate (a1 : Int).toNat 0) (wrap64 (a1 - 1))) else (none)) else (none)) = some r := h
  clear h
  by_cases c3 : 0 ≤ a1
  · rw [if_pos c3] at H
    have c3b0 := eq_true c3
    have c3b1 : decide (0 ≤ a1) = true := decide_eq_true c3
    clear c3
    by_cases c4 : (a1 : Int).toNat ≤ 281474976710656
    · rw [if_pos c4] at H
      have c4b0 := eq_true c4
      have c4b1 : decide ((a1 : Int).toNat ≤ 281474976710656) = true := decide_eq_true c4
      clear c4
      obtain ⟨y150, hy150⟩ : ∃ y_ : List Int, y_ = (List.replicate (a1 : Int).toNat 0) := ⟨_, rfl⟩
      replace H : (spindleref01_Big.l0 k a0 y150 (wrap64 (a1 - 1))) = some r := by first | (rw [hy150]; with_reducible exact H) | (have H2_ := (Option.bind_some _ _).symm.trans H; rw [hy150]; with_reducible exact H2_) | (have H2_ := (Option.bind_some _ _).symm.trans H; with_reducible exact H2_) | with_reducible exact H | (rw [hy150]; exact H) | exact H
      have Ny150 := Aside0.mk hy150
      clear hy150
      have H' := Aside0.mk H
      clear H
      go_enter Try.func75, Try.ntmps75
      go_wp2_with (first | ((with_reducible refine gate_dst (N := 8) rfl ?_); refine Kd.R_make (Kd.int .u8) _ 5 rfl (N := 8) rfl 31 _ _ rfl a1 rfl rfl Try.underlying31 (.int .u8 0) 1 info5 rfl (by decide) (by omega) 0 (ok := fun _ => True) (okp := fun _ => True) rfl (fun _ hk => hk) trivial (of_decide_eq_true (by first | (with_reducible assumption) | assumption)) (Nat.le_trans (Nat.mul_le_mul_right _ (of_decide_eq_true (by first | (with_reducible assumption) | assumption) : a1.toNat ≤ 281474976710656)) (by omega)) (Below.refl _ _) (Nat.le_refl _) ?_; intro v151 w5 ho6 hb hg_ hnew_; clear hg_ hnew_; (first | rw [← Ny150.out] at ho6 | (simp only [Int.reduceToNat] at ho6; rw [← Ny150.out] at ho6)); have n0_ := Aside0.mk (Kd.R_lower ho6 (below_size (by repeat (first | (with_reducible first | exact HB.out | apply below_alloc | apply pw_below_drewN | apply below_drew1) | exact HB.out)))); have n1_ := Aside0.mk (below_step (by repeat (first | (with_reducible first | exact HB.out | apply below_alloc | apply pw_below_drewN | apply below_drew1) | exact HB.out)) hb); clear HB; have HO152 := n0_; have HB := n1_; clear n0_ n1_; clear hb ho6))
      go_loopg [0, 6] k (fun kq v0 v6 w' => ∃ (x0_1 : Int) (x5_1 : List Int) (x6_1 : Int), v0 = .int .u64 x0_1 ∧ v6 = .int .i64 x6_1 ∧ Aside0 (spindleref01_Big.l0 kq x0_1 x5_1 x6_1 = some r) ∧ Aside0 (kq ≤ k) ∧ Aside0 (Kd.R (Kd.int .u8) 5 w' w.heap.size (fun _ => True) v151 x5_1) ∧ Aside0 (Below w.heap.size w w'))
      case atStart => exact ⟨(a0), (y150), (wrap64 (a1 - 1)), (by first | rfl | (simp; done) | (simp [*]; done)), (by first | rfl | (simp; done) | (simp [*]; done)), H', ⟨Nat.le_refl _⟩, ⟨by (with_reducible repeat (first | apply Kd.R_alloc | apply Kd.R_drewN | apply Kd.R_drew)); exact HO152.out⟩, ⟨by repeat (first | (with_reducible first | exact HB.out | apply below_alloc | apply pw_below_drewN | apply below_drew1) | exact HB.out)⟩⟩
      case round =>
        clear H'
        try clear p2
        try clear c3
        try clear c3b0
        try clear c3b1
        try clear c4
        try clear c4b0
        try clear c4b1
        try clear p6
        obtain ⟨x0_1, x5_1, x6_1, rfl, rfl, HA, HK1, HO_5, HB⟩ := hrel
        cases gk with
        | zero => exact absurd HA.out (by simp [spindleref01_Big.l0])
        | succ k1 =>
          have H := HA.out
          clear HA
          simp only [spindleref01_Big.l0] at H
          by_cases c7 : x6_1 ≥ 0
          · rw [if_pos c7] at H
            have c7b0 : decide (0 ≤ x6_1) = true := decide_eq_true c7
            clear c7
            by_cases c8 : 0 ≤ x6_1
            · rw [if_pos c8] at H
              have c8b0 : decide (0 ≤ x6_1) = true := decide_eq_true c8
              clear c8
              by_cases c9 : x6_1 < (x5_1.length : Int)
              · rw [if_pos c9] at H
                have c9b0 : decide (x6_1 < (x5_1.length : Int)) = true := decide_eq_true c9
                clear c9
                obtain ⟨y153, hy153⟩ : ∃ y_ : List Int, y_ = (x5_1.set (x6_1 : Int).toNat ((x0_1) % 256)) := ⟨_, rfl⟩
                replace H : (spindleref01_Big.l0 k1 (x0_1 / 256) y153 (wrap64 (x6_1 - 1))) = some r := by first | (rw [hy153]; with_reducible exact H) | (have H2_ := (Option.bind_some _ _).symm.trans H; rw [hy153]; with_reducible exact H2_) | (have H2_ := (Option.bind_some _ _).symm.trans H; with_reducible exact H2_) | with_reducible exact H | (rw [hy153]; exact H) | exact H
                have Ny153 := Aside0.mk hy153
                clear hy153
                have H' := Aside0.mk H
                clear H
                have p10 : 0 ≤ (x6_1 : Int) := of_decide_eq_true (by first | (with_reducible assumption) | assumption)
                have q10 : (x6_1 : Int) < ((x5_1.length : Int) : Int) := of_decide_eq_true (by first | (with_reducible assumption) | assumption)
                obtain ⟨go10, co10, eo10, gb10, gl10, cl10, HG10⟩ := Kd.R_form HO_5.out (by omega)
                (first | cases eo10 | (injection eo10 with ea_ en_ ec_; (first | subst ea_ | (injection ea_ with ea_; subst ea_)); subst ec_; clear en_))
                have GB10 := Aside0.mk gb10
                have GG10 := Aside0.mk HG10
                clear gb10 gl10 HG10
                obtain ⟨hx10_0, hf10_0⟩ := Kd.R_celln 0 HO_5.out (x6_1 : Int) p10 q10
                replace p10 := eq_true p10
                replace q10 := eq_true q10
                have HP11 := Kd.R_putg HO_5.out (x6_1 : Int) ((x0_1) % 256)
                go_wp2_with (first | ((with_reducible refine gate_store (t := 5) (p := 19) rfl ?_); refine store_event (t := 5) (p := 19) (v := ?vo_w12) (w1 := (wr.setCell ⟨go10, (x6_1 : Int).toNat, none⟩ (.int .u8 ((x0_1) % 256)))) ?hg ?ho ?hn ?hr ?_; (case ho => rfl); (case hg => rfl); (case hn => rfl); (case hr => first | (go_simp; done) | (go_simp; rfl)); intro w12 hw; have hg : wr.grownBy w12 (some go10) := (by rw [hw]; exact HP11.2); have hp_ : Kd.R (Kd.int .u8) 5 w12 w.heap.size (fun _ => True) (.slice (some ⟨go10, 0, none⟩) x5_1.length co10) y153 := (by rw [hw, Ny153.out]; exact HP11.1); clear HP11; have n0_ := Aside0.mk (hp_); have n1_ := Aside0.mk ((by rw [hw]; exact below_set (HB.out) GB10.out : Below w.heap.size w w12)); clear HO_5; clear HB; have HO_5 := n0_; have HB := n1_; clear n0_ n1_; clear hg hw hp_))
                go_roundg k1
                case measure => have := HK1.out; omega
                case rel => exact ⟨(x0_1 / 256), (y153), (wrap64 (x6_1 - 1)), (by first | rfl | (simp; done) | (simp [*]; done)), (by first | rfl | (simp; done) | (simp [*]; done)), H', ⟨by have := HK1.out; omega⟩, ⟨by (with_reducible repeat (first | apply Kd.R_alloc | apply Kd.R_drewN | apply Kd.R_drew)); exact HO_5.out⟩, ⟨by repeat (first | (with_reducible first | exact HB.out | apply below_alloc | apply pw_below_drewN | apply below_drew1) | exact HB.out)⟩⟩
              · rw [if_neg c9] at H
                exact absurd H (by simp)
            · rw [if_neg c8] at H
              exact absurd H (by simp)
          · rw [if_neg c7] at H
            have c7b0 : decide (0 ≤ x6_1) = false := decide_eq_false c7
            clear c7
            obtain rfl := Option.some.inj H
            go_wp2
            go_ret
            exact ⟨_, by first | rfl | (simp [errW_none, errW_some] <;> rfl) | (simp [*, errW_none, errW_some] <;> rfl) | (exfalso; simp_all; done), by (with_reducible repeat (first | apply Kd.R_alloc | apply Kd.R_drewN | apply Kd.R_drew)); exact HO_5.out, by repeat (first | (with_reducible first | exact HB.out | apply below_alloc | apply pw_below_drewN | apply below_drew1) | exact HB.out)⟩
    · rw [if_neg c4] at H
      exact absurd H (by simp)
  · rw [if_neg c3] at H
    exact absurd H (by simp)

end Go.Proofs.Ytilgfhiomcfmhaa.PZ
