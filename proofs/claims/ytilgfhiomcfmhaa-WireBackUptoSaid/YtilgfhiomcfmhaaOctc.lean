/- A writer from its making on: one word for what the encoders' walks carry. -/
import Derived.Test.YtilgfhiomcfmhaaOctb
import Derived.Laws.BitsAllLaws
import Derived.ScopeJumps
import Derived.WalkMore
namespace Go.Proofs.Ytilgfhiomcfmhaa.Octa
open Go.RowKit Go.Proofs.YtilgfhiomcfmhaaW.PrintWords Go.Proofs.YtilgfhiomcfmhaaW.PrintLast

/-- A writer g, made in the world w0, that has gathered xs; older blocks are as they were. -/
structure WS (w0 : World) (g : Nat) (xs : List Int) (w : World) : Prop where
  wr : Wr w (w0.heap.size ≤ ·) g xs
  fr : Fr (w0.heap.size ≤ ·) w0 w
theorem WS.below {w0 w : World} {g : Nat} {xs : List Int} (h : WS w0 g xs w) : Below w0.heap.size w0 w := h.fr.below (Nat.le_refl _)
theorem WS.new {w0 w : World} {g : Nat} {xs : List Int} (h : WS w0 g xs w) : ∀ k, w.heap.size ≤ k → w0.heap.size ≤ k := fun _ hk => Nat.le_trans h.fr.size hk
theorem WS.cell {w0 w : World} {g : Nat} {xs : List Int} (h : WS w0 g xs w) {p : Addr} {v : Value} (hc : w0.cell? p = some v) : w.cell? p = some v := pw_cell_below h.below hc
theorem WS.C {w0 w : World} {g : Nat} {xs : List Int} (h : WS w0 g xs w) {α : Type} {d : Kd α} {A : Option Addr} {n : Nat} {l : List α} (hc : d.C w0 A n l) : d.C w A n l := Kd.C_below hc h.below

theorem NewWriter_ws (w : World) : Calls Try.prog 64 #[] w fun e w' => ∃ g, e = .returned (.pointer (some ⟨g, 0, none⟩)) ∧ WS w g [] w' :=
  (NewWriter_calls w).mono fun _ _ ⟨he, hw⟩ => ⟨_, he, hw ▸ ⟨Wr_new w _ (Nat.le_refl _), (Fr.refl _ _).alloc _⟩⟩
theorem U16_ws {w0 w : World} {g : Nat} {xs : List Int} (v : Int) (h : WS w0 g xs w) (hv : 0 ≤ v ∧ v ≤ 65535) (hlen : xs.length + 2 ≤ 140737488355328) :
    Calls Try.prog 70 #[.pointer (some ⟨g, 0, none⟩), .int .u16 v] w fun e w' => e = .returned (.tuple #[]) ∧ WS w0 g (xs ++ be v 2) w' :=
  (U16_calls _ g xs v hv.1 hv.2 w h.wr h.new hlen).mono fun _ _ ⟨he, h1, h2⟩ => ⟨he, h1, h.fr.trans h2⟩
theorem U32_ws {w0 w : World} {g : Nat} {xs : List Int} (v : Int) (h : WS w0 g xs w) (hv : 0 ≤ v ∧ v ≤ 4294967295) (hlen : xs.length + 4 ≤ 140737488355328) :
    Calls Try.prog 66 #[.pointer (some ⟨g, 0, none⟩), .int .u32 v] w fun e w' => e = .returned (.tuple #[]) ∧ WS w0 g (xs ++ be v 4) w' :=
  (U32_calls _ g xs v hv.1 hv.2 w h.wr h.new hlen).mono fun _ _ ⟨he, h1, h2⟩ => ⟨he, h1, h.fr.trans h2⟩
theorem U64_ws {w0 w : World} {g : Nat} {xs : List Int} (v : Int) (h : WS w0 g xs w) (hlen : xs.length + 8 ≤ 140737488355328) :
    Calls Try.prog 65 #[.pointer (some ⟨g, 0, none⟩), .int .u64 v] w fun e w' => e = .returned (.tuple #[]) ∧ WS w0 g (xs ++ be v 8) w' :=
  (U64_calls _ g xs v w h.wr h.new hlen).mono fun _ _ ⟨he, h1, h2⟩ => ⟨he, h1, h.fr.trans h2⟩
theorem Raw_ws {w0 w : World} {g : Nat} {xs : List Int} (A : Option Addr) (c : Nat) (ys : List Int) (h : WS w0 g xs w) (hC : Kd.C (Kd.int .u8) w A ys.length ys) (hlen : xs.length + ys.length ≤ 140737488355328) :
    Calls Try.prog 67 #[.pointer (some ⟨g, 0, none⟩), .slice A ys.length c] w fun e w' => e = .returned (.tuple #[]) ∧ WS w0 g (xs ++ ys) w' :=
  (Raw_calls _ g xs A c ys w h.wr h.new hC hlen).mono fun _ _ ⟨he, h1, h2⟩ => ⟨he, h1, h.fr.trans h2⟩
theorem Zeros_ws {w0 w : World} {g : Nat} {xs : List Int} (n : Nat) (hn : n ≤ 2097152) (h : WS w0 g xs w) (hlen : xs.length + n ≤ 140737488355328) :
    Calls Try.prog 74 #[.pointer (some ⟨g, 0, none⟩), .int .i64 n] w fun e w' => e = .returned (.int .i64 0) ∧ WS w0 g (xs ++ List.replicate n 0) w' :=
  (Zeros_calls _ g xs n hn w h.wr h.new hlen).mono fun _ _ ⟨he, h1, h2⟩ => ⟨he, h1, h.fr.trans h2⟩
theorem Out_ws {w0 w : World} {g : Nat} {xs : List Int} (h : WS w0 g xs w) (hlen : xs.length ≤ 140737488355328) :
    Calls Try.prog 68 #[.pointer (some ⟨g, 0, none⟩)] w fun e w' => ∃ v0_ : Value, e = .returned v0_ ∧ Kd.R (Kd.int .u8) 5 w' w0.heap.size (fun _ => True) v0_ xs ∧ Below w0.heap.size w0 w' :=
  (Out_calls _ g xs w h.wr hlen).mono fun _ _ ⟨v, he, h1, h2⟩ => ⟨v, he, R_of_own (own_weaken h1 h.fr.size), h.below.trans (h2.mono h.fr.size)⟩

/-! ### a scope whose gotos all jump on to one label -/
theorem wp_scope_inline {P : Program} {a : Act} {w : World} {Q : Exit → Act → World → Prop} {c rest : Code} (l : Nat) (hf : findLabel c l = some rest)
    (first : c.wp P (Exit.jump l (fun a w => rest.wp P (Exit.noGoto Q) a w) Q) a w) : (Code.scope c).wp P Q a w :=
  wp_scope_jumps l (fun a w => rest.wp P (Exit.noGoto Q) a w) (fun _ _ => 0) hf first (fun a w h => Code.wp_mono (fun e a w q => by cases e <;> first | exact q | exact q.elim) h)

/-! ### the reader over the first m bytes of a row -/
def vat (l : List Int) (a n : Nat) : Int := vl ((l.drop a).take n)
theorem vat_take (l : List Int) (a n m : Nat) (h : a + n ≤ m) : vl (((l.take m).drop a).take n) = vat l a n := by
  unfold vat
  congr 1
  rw [List.drop_take, List.take_take, Nat.min_eq_left (by omega)]

theorem vstep_range (v c : Int) : 0 ≤ vstep v c ∧ vstep v c < 18446744073709551616 := by
  unfold vstep
  have ha : 0 ≤ IntKind.u64.wrap (v * 256) ∧ IntKind.u64.wrap (v * 256) < 18446744073709551616 := by rw [IntKind.wrap_u64]; omega
  have hb : 0 ≤ IntKind.u64.wrap c ∧ IntKind.u64.wrap c < 18446744073709551616 := by rw [IntKind.wrap_u64]; omega
  rw [u64_or _ _ ha.1 ha.2 hb.1 hb.2]
  have := Nat.or_lt_two_pow (x := (IntKind.u64.wrap (v * 256)).toNat) (y := (IntKind.u64.wrap c).toNat) (n := 64) (by omega) (by omega)
  omega
theorem vl_range (bs : List Int) : 0 ≤ vl bs ∧ vl bs < 18446744073709551616 := by
  rcases List.eq_nil_or_concat bs with rfl | ⟨L, b, rfl⟩
  · simp [vl]
  · rw [List.concat_eq_append, vl_snoc]; exact vstep_range _ _
theorem vat_range (l : List Int) (a n : Nat) : 0 ≤ vat l a n ∧ vat l a n < 18446744073709551616 := vl_range _

theorem Rd.via {w w' : World} {g : Nat} {sv : Value} {l : List Int} {at_ : Nat} (h : Rd w g sv l at_) (k : Rd w g sv l at_ → Rd w' g sv l at_) : Rd w' g sv l at_ := k h
theorem Rd.alloc {w : World} {g : Nat} {sv : Value} {l : List Int} {at_ : Nat} (h : Rd w g sv l at_) (o : Obj) : Rd (w.alloc o) g sv l at_ := h.below (below_alloc (Below.refl _ _) o)
theorem Rd.set {w : World} {g : Nat} {sv : Value} {l : List Int} {at_ : Nat} (h : Rd w g sv l at_) {b o : Nat} (hb : ¬ b = g) (hr : ∀ k, sv.ownBlock = some k → ¬ k = b) (v : Value) : Rd (w.setCell ⟨b, o, none⟩ v) g sv l at_ :=
  h.move (Below.heap_setCell w ⟨b, o, none⟩ v g (fun e => hb e.symm)) fun k hk => Below.heap_setCell w ⟨b, o, none⟩ v k (hr k hk)
theorem Rd.set6 {w : World} {g : Nat} {sv : Value} {l : List Int} {at_ : Nat} (h : Rd w g sv l at_) {b o0 o1 o2 o3 o4 o5 : Nat} (hb : ¬ b = g) (hr : ∀ k, sv.ownBlock = some k → ¬ k = b) (v0 v1 v2 v3 v4 v5 : Value) :
    Rd ((((((w.setCell ⟨b, o0, none⟩ v0).setCell ⟨b, o1, none⟩ v1).setCell ⟨b, o2, none⟩ v2).setCell ⟨b, o3, none⟩ v3).setCell ⟨b, o4, none⟩ v4).setCell ⟨b, o5, none⟩ v5) g sv l at_ :=
  (((((h.set hb hr v0).set hb hr v1).set hb hr v2).set hb hr v3).set hb hr v4).set hb hr v5
theorem Rd.lt {w : World} {g : Nat} {sv : Value} {l : List Int} {at_ : Nat} (h : Rd w g sv l at_) : g < w.heap.size ∧ ∀ k, sv.ownBlock = some k → k < w.heap.size :=
  ⟨blk_lt h.1, fun k hk => own_lt h.2.1 k hk⟩

/-- A reader of the first m bytes; older cells are as they were. -/
theorem NewReader_rs (A0 : Option Addr) (m c0 : Nat) (l0 : List Int) (w : World) (hm : m ≤ l0.length) (hr0 : Kd.C (Kd.int .u8) w A0 l0.length l0) (hl : l0.length ≤ 281474976710656) :
    Calls Try.prog 76 #[.slice A0 m c0] w fun e w' => ∃ g sv, e = .returned (.pointer (some ⟨g, 0, none⟩)) ∧ (w.heap.size ≤ g ∧ ∀ k, sv.ownBlock = some k → w.heap.size ≤ k) ∧ Rd w' g sv (l0.take m) 0 ∧ Below w.heap.size w w' :=
  NewReader_of A0 m c0 (l0.take m) w (by simp; omega) (Kd.C_take hr0 hm) (by omega)
theorem numU16_rs {l0 : List Int} {m : Nat} {g : Nat} {sv : Value} {at_ : Nat} {w : World} (h : Rd w g sv (l0.take m) at_) (hm : m ≤ l0.length) (hl : l0.length ≤ 281474976710656) (hfit : at_ + 2 ≤ m) :
    Calls Try.prog 79 #[.func (Fn.func 80) #[.pointer (some ⟨g, 0, none⟩)] #[]] w fun e w' => e = .returned (.int .u16 (vat l0 at_ 2 % 65536)) ∧ Rd w' g sv (l0.take m) (at_ + 2) ∧ RF g w w' := by
  rw [← vat_take l0 at_ 2 m hfit]
  exact numU16 g sv (l0.take m) at_ (by simp; omega) w h (by simp; omega)
theorem numU32_rs {l0 : List Int} {m : Nat} {g : Nat} {sv : Value} {at_ : Nat} {w : World} (h : Rd w g sv (l0.take m) at_) (hm : m ≤ l0.length) (hl : l0.length ≤ 281474976710656) (hfit : at_ + 4 ≤ m) :
    Calls Try.prog 81 #[.func (Fn.func 82) #[.pointer (some ⟨g, 0, none⟩)] #[]] w fun e w' => e = .returned (.int .u32 (vat l0 at_ 4 % 4294967296)) ∧ Rd w' g sv (l0.take m) (at_ + 4) ∧ RF g w w' := by
  rw [← vat_take l0 at_ 4 m hfit]
  exact numU32 g sv (l0.take m) at_ (by simp; omega) w h (by simp; omega)
theorem numU64_rs {l0 : List Int} {m : Nat} {g : Nat} {sv : Value} {at_ : Nat} {w : World} (h : Rd w g sv (l0.take m) at_) (hm : m ≤ l0.length) (hl : l0.length ≤ 281474976710656) (hfit : at_ + 8 ≤ m) :
    Calls Try.prog 77 #[.func (Fn.func 78) #[.pointer (some ⟨g, 0, none⟩)] #[]] w fun e w' => e = .returned (.int .u64 (vat l0 at_ 8)) ∧ Rd w' g sv (l0.take m) (at_ + 8) ∧ RF g w w' := by
  rw [← vat_take l0 at_ 8 m hfit]
  exact numU64 g sv (l0.take m) at_ (by simp; omega) w h (by simp; omega)
/-- All old cells and marks read as before. -/
theorem below_rules {W w1 : World} (hb : Below W.heap.size W w1) : (∀ b o, b < W.heap.size → w1.cell? ⟨b, o, none⟩ = W.cell? ⟨b, o, none⟩) ∧ (∀ b o, b < W.heap.size → w1.frozen? ⟨b, o, none⟩ = W.frozen? ⟨b, o, none⟩) :=
  ⟨fun b o h => hb.cell (p := ⟨b, o, none⟩) h, fun b o h => hb.frozen (p := ⟨b, o, none⟩) h⟩
end Go.Proofs.Ytilgfhiomcfmhaa.Octa
