/- The octet reader: contracts of its methods over memory, for every reader that octet made. -/
import Derived.Test.YtilgfhiomcfmhaaOcta
namespace Go.Proofs.Ytilgfhiomcfmhaa.Octa
open Go.RowKit Go.Proofs.YtilgfhiomcfmhaaW.PrintWords Go.Proofs.YtilgfhiomcfmhaaW.PrintLast

/-- A reader at block g over the bytes l, which lie in the row sv; so many are read. -/
def Rd (w : World) (g : Nat) (sv : Value) (l : List Int) (at_ : Nat) : Prop :=
  w.heap[g]? = some (.cells #[.bool true, sv, .int .i64 at_] 164 (0, 0)) ∧ w.ownsRow 0 5 1 sv l.length (nums .u8 l) ∧ sv.ownBlock ≠ some g ∧ at_ ≤ l.length

/-- One byte more, as the walk spells it. -/
def vstep (v c : Int) : Int := Go.bits .or .u64 (IntKind.u64.wrap (v * 256)) (IntKind.u64.wrap c)
def vl (bs : List Int) : Int := bs.foldl vstep 0

theorem Rd.move {w w' : World} {g : Nat} {sv : Value} {l : List Int} {at_ : Nat} (h : Rd w g sv l at_) (hg : w'.heap[g]? = w.heap[g]?) (hr : ∀ k, sv.ownBlock = some k → w'.heap[k]? = w.heap[k]?) : Rd w' g sv l at_ :=
  ⟨hg.trans h.1, own_move h.2.1 hr, h.2.2.1, h.2.2.2⟩
theorem Rd.fr {w w' : World} {g : Nat} {sv : Value} {l : List Int} {at_ : Nat} {S : Nat → Prop} (h : Rd w g sv l at_) (hf : Fr S w w') (hg : ¬ S g) (hr : ∀ k, sv.ownBlock = some k → ¬ S k) : Rd w' g sv l at_ :=
  h.move (hf.block g (Array.getElem?_eq_some_iff.1 h.1).1 hg) fun k hk => hf.block k (own_lt h.2.1 k hk) (hr k hk)
theorem Rd.below {w w' : World} {g : Nat} {sv : Value} {l : List Int} {at_ : Nat} (h : Rd w g sv l at_) (hf : Below w.heap.size w w') : Rd w' g sv l at_ :=
  h.move (hf.block g (Array.getElem?_eq_some_iff.1 h.1).1) fun k hk => hf.block k (own_lt h.2.1 k hk)

/-- Only block g has changed, and no block has come. -/
structure RF (g : Nat) (w w' : World) : Prop where
  os : w'.os = w.os
  tape : w'.tape = w.tape
  output : w'.output = w.output
  size : w'.heap.size = w.heap.size
  block : ∀ k, ¬ k = g → w'.heap[k]? = w.heap[k]?
theorem RF.fr {g : Nat} {w w' : World} (h : RF g w w') : Fr (· = g) w w' := ⟨h.os, h.tape, h.output, by rw [h.size]; exact Nat.le_refl _, fun k _ hn => h.block k hn⟩
theorem RF.trans {g : Nat} {a b c : World} (h : RF g a b) (k : RF g b c) : RF g a c := ⟨k.os.trans h.os, k.tape.trans h.tape, k.output.trans h.output, k.size.trans h.size, fun i hn => (k.block i hn).trans (h.block i hn)⟩
theorem RF.below {g B : Nat} {w w' : World} (h : RF g w w') (hB : B ≤ g) : Below B w w' := ⟨h.os, h.tape, h.output, by rw [h.size]; exact Nat.le_refl _, fun k hk => h.block k (by omega)⟩
theorem RF.rules {g : Nat} {w w' : World} (h : RF g w w') : (∀ b o, ¬ b = g → w'.cell? ⟨b, o, none⟩ = w.cell? ⟨b, o, none⟩) ∧ (∀ b o, ¬ b = g → w'.frozen? ⟨b, o, none⟩ = w.frozen? ⟨b, o, none⟩) ∧ w'.heap.size = w.heap.size :=
  ⟨fun b o hn => World.cell?_of_block (a := ⟨b, o, none⟩) (h.block b hn), fun b o hn => World.frozen?_of_block (a := ⟨b, o, none⟩) (h.block b hn), h.size⟩

theorem ralive_any (g : Nat) (m : Bool) (v u : Value) (w : World) (h : w.heap[g]? = some (.cells #[.bool m, v, u] 164 (0, 0))) :
    Calls Try.prog 104 #[.pointer (some ⟨g, 0, none⟩)] w fun e w' => e = .returned (.bool m) ∧ w = w' := by
  have hc : w.cell? ⟨g, 0, none⟩ = some (.bool m) := (blk_cell h 0).trans rfl
  clear h
  go_enter Try.func104, Try.ntmps104
  go_wp2
  go_ret
  exact ⟨rfl, rfl⟩

theorem NewReader_calls (A0 : Option Addr) (c0 : Nat) (l0 : List Int) (w : World) (hr0 : Kd.C (Kd.int .u8) w A0 l0.length l0) (hl : l0.length ≤ 281474976710656) :
    Calls Try.prog 76 #[.slice A0 l0.length c0] w fun e w' => ∃ g sv, e = .returned (.pointer (some ⟨g, 0, none⟩)) ∧ (w.heap.size ≤ g ∧ ∀ k, sv.ownBlock = some k → w.heap.size ≤ k) ∧ Rd w' g sv l0 0 ∧ Below w.heap.size w w' := by
  have HC := Lib.hid hr0
  clear hr0
  go_enter Try.func76, Try.ntmps76
  go_wp2_with (go_at_call 96; go_must (refine (copied_calls A0 c0 l0 _ HC.out hl).mono ?_); rintro e w' ⟨v, rfl, h1, h2⟩; (obtain ⟨A', cap', hv'⟩ := wr_form h1); subst hv'; (have HH := Lib.hid (And.intro h1 h2)); clear h1 h2)
  go_ret
  obtain ⟨h1, h2⟩ := HH.out
  refine ⟨_, _, rfl, ⟨h2.size, fun k hk => own_base h1 k hk⟩, ⟨heap_alloc_new w' _, ?_, ?_, Nat.zero_le _⟩, below_alloc h2 _⟩
  · exact (own_weaken h1 (Nat.zero_le _)).alloc _
  · intro hk
    have := own_lt h1 _ hk
    omega

/-- The same, the length said otherwise. -/
theorem NewReader_of (A0 : Option Addr) (n c0 : Nat) (l0 : List Int) (w : World) (hn : l0.length = n) (hr0 : Kd.C (Kd.int .u8) w A0 l0.length l0) (hl : n ≤ 281474976710656) :
    Calls Try.prog 76 #[.slice A0 n c0] w fun e w' => ∃ g sv, e = .returned (.pointer (some ⟨g, 0, none⟩)) ∧ (w.heap.size ≤ g ∧ ∀ k, sv.ownBlock = some k → w.heap.size ≤ k) ∧ Rd w' g sv l0 0 ∧ Below w.heap.size w w' := by
  subst hn
  exact NewReader_calls A0 c0 l0 w hr0 hl

theorem rd_C {w : World} {base : Nat} {v : Value} {l : List Int} (h : w.ownsRow base 5 1 v l.length (nums .u8 l)) {A : Option Addr} {c : Nat} (hv : v = .slice A l.length c) : Kd.C (Kd.int .u8) w A l.length l := by
  obtain ⟨A', c', he, _, hC⟩ := C_of_R (R_of_own h)
  rw [hv] at he
  injection he with h1 h2 h3
  subst h1
  exact hC


theorem vl_snoc (bs : List Int) (c : Int) : vl (bs ++ [c]) = vstep (vl bs) c := by simp [vl, List.foldl_append]

set_option maxHeartbeats 1000000 in
set_option maxRecDepth 100000 in
theorem rnumber_any (g : Nat) (sv : Value) (l : List Int) (at_ n : Nat) (hn1 : 1 ≤ n) (hn : n ≤ 8) (hll : l.length ≤ 281474976710656) (w : World) (h : Rd w g sv l at_) (hfit : at_ + n ≤ l.length) :
    Calls Try.prog 98 #[.pointer (some ⟨g, 0, none⟩), .int .i64 n] w fun e w' => e = .returned (.tuple #[.int .u64 (vl ((l.drop at_).take n)), .int .i64 0]) ∧ Rd w' g sv l (at_ + n) ∧ RF g w w' := by
  obtain ⟨hb0, ho, hne, hat⟩ := id h
  obtain ⟨gr, cap, rfl, _, _⟩ := ho.form (by omega)
  have hcap : l.length ≤ cap := by
    rcases ho.2 with ⟨h0, _⟩ | ⟨g', cap', cur, hv, _, _, hle, _⟩
    · cases h0
    · injection hv with _ _ h3
      omega
  have hcell : ∀ j, j < l.length → w.cell? ⟨gr, j, none⟩ = some (.int .u8 (l.getD j 0)) := by
    intro j hj
    have := ho.cells (g := gr) rfl j (.int .u8 (l.getD j 0)) (by simp [nums, List.getD, List.getElem?_eq_getElem hj])
    rwa [add_plain] at this
  have hmaxc : cap ≤ 9223372036854775807 := by
    rcases ho.2 with ⟨h0, _⟩ | ⟨g', cap', cur, hv, _, _, hle, hm, _⟩
    · cases h0
    · injection hv with _ _ h3
      unfold maxLen at hm
      omega
  have hc1 : w.cell? ⟨g, 1, none⟩ = some _ := (blk_cell hb0 1).trans rfl
  have hc2 : w.cell? ⟨g, 2, none⟩ = some _ := (blk_cell hb0 2).trans rfl
  have hf2 : w.frozen? ⟨g, 2, none⟩ = false := blk_frozen hb0 2
  have HC := Lib.hid hcell
  have HR := Lib.hid h
  have hg2 : gr ≠ g := fun e => hne (by simp [Value.ownBlock, e])
  have HG := Lib.hid hg2
  clear hcell ho hne h hg2
  have hca : ¬ cap = at_ := by omega
  go_enter Try.func98, Try.ntmps98
  go_wp2_with (go_at_call 104; refine (ralive_any _ _ _ _ _ hb0).mono ?_; rintro e w' ⟨rfl, rfl⟩)
  go_quiet (fail)
  go_wp2
  have hsum : IntKind.i64.wrap ((at_ : Int) + n) = ((at_ + n : Nat) : Int) := by rw [show IntKind.i64.wrap ((at_ : Int) + n) = (at_ : Int) + n from IntWalk.i64_in _ (by omega)]; omega
  go_quiet (fail)
  go_wp2
  go_loop [6, 8, 40] (fun v _ i => ∃ k : Nat, k ≤ n ∧ v = .int .u64 (vl ((l.drop at_).take k)) ∧ i = .int .i64 k) (fun _ _ i => n - (intOf i).toNat)
  case atStart => exact ⟨0, Nat.zero_le _, rfl, rfl⟩
  case round =>
    obtain ⟨k, hk, rfl, rfl⟩ := hrel
    by_cases hlt : k < n
    · have hck : w.cell? ⟨gr, at_ + k, none⟩ = some (.int .u8 (l.getD (at_ + k) 0)) := HC.out _ (by omega)
      have hx : l.getD (at_ + k) 0 = (l.drop at_)[k]'(by rw [List.length_drop]; omega) := by
        rw [List.getElem_drop, List.getD_eq_getElem?_getD, List.getElem?_eq_getElem (by omega)]; rfl
      obtain ⟨c, hc⟩ : ∃ c, c = l.getD (at_ + k) 0 := ⟨_, rfl⟩
      rw [← hc] at hck hx
      have hs : vl ((l.drop at_).take (k + 1)) = vstep (vl ((l.drop at_).take k)) c := by
        rw [List.take_succ_eq_append_getElem (by rw [List.length_drop]; omega), vl_snoc, hx]
      have HS := Lib.hid hs
      clear hs hx hc
      go_wp2
      go_round
      case rel =>
        refine ⟨_, _, _, ⟨k + 1, by omega, ?_, ?_⟩, rfl, rfl, rfl⟩
        · rw [HS.out]; rfl
        · go_num
      case measure => simp [intOf]; omega
    · obtain rfl : k = n := by omega
      go_wp2
      go_ret2
      refine ⟨rfl, ?_, ?_⟩
      · obtain ⟨hb, ho, hne, hat2⟩ := HR.out
        refine ⟨?_, own_move (w := w) ho (fun b hk => Below.heap_setCell _ _ _ _ ?_), hne, hfit⟩
        · exact (blk_set (w := w.drewN _) hb 2 _).trans rfl
        · intro e
          simp [Value.ownBlock] at hk
          exact HG.out (by simpa [hk] using e)
      · exact ⟨rfl, rfl, rfl, by simp [World.setCell], fun k hk => Below.heap_setCell (w.drewN _) ⟨g, 2, none⟩ _ k hk⟩

/-- So many bytes are no longer there. -/
theorem rnumber_short (g : Nat) (sv : Value) (l : List Int) (at_ n : Nat) (hn : n ≤ 8) (_hll : l.length ≤ 281474976710656) (w : World) (h : Rd w g sv l at_) (hfit : l.length < at_ + n) :
    Calls Try.prog 98 #[.pointer (some ⟨g, 0, none⟩), .int .i64 n] w fun e w' => e = .returned (.tuple #[.int .u64 0, .int .i64 10]) ∧ ∃ m, w' = w.drewN m := by
  obtain ⟨hb0, ho, hne, hat⟩ := id h
  obtain ⟨A1, cp1, rfl⟩ := wr_form ho
  have hc1 : w.cell? ⟨g, 1, none⟩ = some _ := (blk_cell hb0 1).trans rfl
  have hc2 : w.cell? ⟨g, 2, none⟩ = some _ := (blk_cell hb0 2).trans rfl
  clear ho hne h
  go_enter Try.func98, Try.ntmps98
  go_wp2_with (go_at_call 104; refine (ralive_any _ _ _ _ _ hb0).mono ?_; rintro e w' ⟨rfl, rfl⟩)
  go_quiet (fail)
  go_wp2
  go_ret2
  exact ⟨rfl, _, rfl⟩


theorem RU16_calls (g : Nat) (sv : Value) (l : List Int) (at_ : Nat) (hll : l.length ≤ 281474976710656) (w : World) (h : Rd w g sv l at_) (hfit : at_ + 2 ≤ l.length) :
    Calls Try.prog 80 #[.pointer (some ⟨g, 0, none⟩)] w fun e w' => e = .returned (.tuple #[.int .u16 ((vl ((l.drop at_).take 2)) % 65536), .int .i64 0]) ∧ Rd w' g sv l (at_ + 2) ∧ RF g w w' := by
  go_enter Try.func80, Try.ntmps80
  go_wp2_with (go_at_call 98; go_must (refine (rnumber_any g sv l at_ 2 (by omega) (by omega) hll w h hfit).mono ?_); rintro e w' ⟨rfl, h1, h2⟩; (have HH := Lib.hid (And.intro h1 h2)); clear h1 h2)
  go_ret2
  exact ⟨rfl, HH.out.1, HH.out.2⟩
theorem RU16_short (g : Nat) (sv : Value) (l : List Int) (at_ : Nat) (hll : l.length ≤ 281474976710656) (w : World) (h : Rd w g sv l at_) (hfit : l.length < at_ + 2) :
    Calls Try.prog 80 #[.pointer (some ⟨g, 0, none⟩)] w fun e w' => e = .returned (.tuple #[.int .u16 0, .int .i64 10]) ∧ ∃ m, w' = w.drewN m := by
  go_enter Try.func80, Try.ntmps80
  go_wp2_with (go_at_call 98; go_must (refine (rnumber_short g sv l at_ 2 (by omega) hll w h hfit).mono ?_); rintro e w' ⟨rfl, m, rfl⟩)
  go_ret2
  exact ⟨rfl, _, rfl⟩

theorem RU32_calls (g : Nat) (sv : Value) (l : List Int) (at_ : Nat) (hll : l.length ≤ 281474976710656) (w : World) (h : Rd w g sv l at_) (hfit : at_ + 4 ≤ l.length) :
    Calls Try.prog 82 #[.pointer (some ⟨g, 0, none⟩)] w fun e w' => e = .returned (.tuple #[.int .u32 ((vl ((l.drop at_).take 4)) % 4294967296), .int .i64 0]) ∧ Rd w' g sv l (at_ + 4) ∧ RF g w w' := by
  go_enter Try.func82, Try.ntmps82
  go_wp2_with (go_at_call 98; go_must (refine (rnumber_any g sv l at_ 4 (by omega) (by omega) hll w h hfit).mono ?_); rintro e w' ⟨rfl, h1, h2⟩; (have HH := Lib.hid (And.intro h1 h2)); clear h1 h2)
  go_ret2
  exact ⟨rfl, HH.out.1, HH.out.2⟩
theorem RU32_short (g : Nat) (sv : Value) (l : List Int) (at_ : Nat) (hll : l.length ≤ 281474976710656) (w : World) (h : Rd w g sv l at_) (hfit : l.length < at_ + 4) :
    Calls Try.prog 82 #[.pointer (some ⟨g, 0, none⟩)] w fun e w' => e = .returned (.tuple #[.int .u32 0, .int .i64 10]) ∧ ∃ m, w' = w.drewN m := by
  go_enter Try.func82, Try.ntmps82
  go_wp2_with (go_at_call 98; go_must (refine (rnumber_short g sv l at_ 4 (by omega) hll w h hfit).mono ?_); rintro e w' ⟨rfl, m, rfl⟩)
  go_ret2
  exact ⟨rfl, _, rfl⟩

theorem RU64_calls (g : Nat) (sv : Value) (l : List Int) (at_ : Nat) (hll : l.length ≤ 281474976710656) (w : World) (h : Rd w g sv l at_) (hfit : at_ + 8 ≤ l.length) :
    Calls Try.prog 78 #[.pointer (some ⟨g, 0, none⟩)] w fun e w' => e = .returned (.tuple #[.int .u64 (vl ((l.drop at_).take 8)), .int .i64 0]) ∧ Rd w' g sv l (at_ + 8) ∧ RF g w w' := by
  go_enter Try.func78, Try.ntmps78
  go_wp2_with (go_at_call 98; go_must (refine (rnumber_any g sv l at_ 8 (by omega) (by omega) hll w h hfit).mono ?_); rintro e w' ⟨rfl, h1, h2⟩; (have HH := Lib.hid (And.intro h1 h2)); clear h1 h2)
  go_ret2
  exact ⟨rfl, HH.out.1, HH.out.2⟩
theorem RU64_short (g : Nat) (sv : Value) (l : List Int) (at_ : Nat) (hll : l.length ≤ 281474976710656) (w : World) (h : Rd w g sv l at_) (hfit : l.length < at_ + 8) :
    Calls Try.prog 78 #[.pointer (some ⟨g, 0, none⟩)] w fun e w' => e = .returned (.tuple #[.int .u64 0, .int .i64 10]) ∧ ∃ m, w' = w.drewN m := by
  go_enter Try.func78, Try.ntmps78
  go_wp2_with (go_at_call 98; go_must (refine (rnumber_short g sv l at_ 8 (by omega) hll w h hfit).mono ?_); rintro e w' ⟨rfl, m, rfl⟩)
  go_ret2
  exact ⟨rfl, _, rfl⟩

/-- wire.number over the method value r.U16. -/
theorem numU16 (g : Nat) (sv : Value) (l : List Int) (at_ : Nat) (hll : l.length ≤ 281474976710656) (w : World) (h : Rd w g sv l at_) (hfit : at_ + 2 ≤ l.length) :
    Calls Try.prog 79 #[.func (Fn.func 80) #[.pointer (some ⟨g, 0, none⟩)] #[]] w fun e w' => e = .returned (.int .u16 ((vl ((l.drop at_).take 2)) % 65536)) ∧ Rd w' g sv l (at_ + 2) ∧ RF g w w' := by
  go_enter Try.func79, Try.ntmps79
  go_wp2_with (go_at_call 80; go_must (refine (RU16_calls g sv l at_ hll w h hfit).mono ?_); rintro e w' ⟨rfl, h1, h2⟩; (have HH := Lib.hid (And.intro h1 h2)); clear h1 h2)
  go_ret
  exact ⟨rfl, HH.out.1, HH.out.2⟩

/-- wire.number over the method value r.U32. -/
theorem numU32 (g : Nat) (sv : Value) (l : List Int) (at_ : Nat) (hll : l.length ≤ 281474976710656) (w : World) (h : Rd w g sv l at_) (hfit : at_ + 4 ≤ l.length) :
    Calls Try.prog 81 #[.func (Fn.func 82) #[.pointer (some ⟨g, 0, none⟩)] #[]] w fun e w' => e = .returned (.int .u32 ((vl ((l.drop at_).take 4)) % 4294967296)) ∧ Rd w' g sv l (at_ + 4) ∧ RF g w w' := by
  go_enter Try.func81, Try.ntmps81
  go_wp2_with (go_at_call 82; go_must (refine (RU32_calls g sv l at_ hll w h hfit).mono ?_); rintro e w' ⟨rfl, h1, h2⟩; (have HH := Lib.hid (And.intro h1 h2)); clear h1 h2)
  go_ret
  exact ⟨rfl, HH.out.1, HH.out.2⟩

/-- wire.number over the method value r.U64. -/
theorem numU64 (g : Nat) (sv : Value) (l : List Int) (at_ : Nat) (hll : l.length ≤ 281474976710656) (w : World) (h : Rd w g sv l at_) (hfit : at_ + 8 ≤ l.length) :
    Calls Try.prog 77 #[.func (Fn.func 78) #[.pointer (some ⟨g, 0, none⟩)] #[]] w fun e w' => e = .returned (.int .u64 (vl ((l.drop at_).take 8))) ∧ Rd w' g sv l (at_ + 8) ∧ RF g w w' := by
  go_enter Try.func77, Try.ntmps77
  go_wp2_with (go_at_call 78; go_must (refine (RU64_calls g sv l at_ hll w h hfit).mono ?_); rintro e w' ⟨rfl, h1, h2⟩; (have HH := Lib.hid (And.intro h1 h2)); clear h1 h2)
  go_ret
  exact ⟨rfl, HH.out.1, HH.out.2⟩
end Go.Proofs.Ytilgfhiomcfmhaa.Octa
