/- The octet writer and reader: contracts of their methods over memory, for every writer and reader that octet made. -/
import Derived.Test.YtilgfhiomcfmhaaProg
import Derived.Test.YtilgfhiomcfmhaaWZeros
import Derived.WalkKit
import Derived.Deep.RegionLaw
import Derived.Deep.QuietTactic
import Derived.BigQuiet
import Derived.Deep.DeepCutAuto
import Derived.Deep.LoopGhost
import Derived.Lib.Hide
import Derived.Laws.CopyOwn
import Derived.Laws.AppendOwnNone
import Derived.IntWalk
import Derived.Deep.DeepMust
namespace Go.Proofs.Ytilgfhiomcfmhaa.Octa
open Go.RowKit Go.Proofs.YtilgfhiomcfmhaaW.PrintWords Go.Proofs.YtilgfhiomcfmhaaW.PrintLast

/-- Only blocks of S have changed; new ones are there. -/
structure Fr (S : Nat → Prop) (w w' : World) : Prop where
  os : w'.os = w.os
  tape : w'.tape = w.tape
  output : w'.output = w.output
  size : w.heap.size ≤ w'.heap.size
  block : ∀ k, k < w.heap.size → ¬ S k → w'.heap[k]? = w.heap[k]?
section
variable {S T : Nat → Prop} {a b c w w' : World}
theorem Fr.refl (S : Nat → Prop) (w : World) : Fr S w w := ⟨rfl, rfl, rfl, Nat.le_refl _, fun _ _ _ => rfl⟩
theorem Fr.trans (h : Fr S a b) (k : Fr S b c) : Fr S a c :=
  ⟨k.os.trans h.os, k.tape.trans h.tape, k.output.trans h.output, Nat.le_trans h.size k.size, fun i hi hn => (k.block i (Nat.lt_of_lt_of_le hi h.size) hn).trans (h.block i hi hn)⟩
theorem Fr.mono (h : Fr S a b) (hS : ∀ k, k < a.heap.size → S k → T k) : Fr T a b := ⟨h.os, h.tape, h.output, h.size, fun i hi hn => h.block i hi (fun hs => hn (hS i hi hs))⟩
theorem Fr.drew (h : Fr S a w) : Fr S a w.drew := ⟨h.os, h.tape, h.output, h.size, h.block⟩
theorem Fr.drewN (h : Fr S a w) (n : Nat) : Fr S a (w.drewN n) := ⟨h.os, h.tape, h.output, h.size, h.block⟩
theorem Fr.alloc (h : Fr S a w) (o : Obj) : Fr S a (w.alloc o) :=
  h.trans ⟨rfl, rfl, rfl, by simp, fun k hk _ => Below.heap_alloc _ _ _ hk⟩
theorem Fr.setCell (h : Fr S a w) {p : Addr} (hp : S p.block) (u : Value) : Fr S a (w.setCell p u) :=
  h.trans ⟨rfl, rfl, rfl, by simp [World.setCell], fun k _ hn => Below.heap_setCell _ _ _ _ (fun e => hn (e ▸ hp))⟩
theorem Fr.grown (h : Fr S a w) {row : Option Nat} (hg : w.grownBy w' row) (hr : ∀ k, row = some k → S k) : Fr S a w' :=
  h.trans ⟨hg.os, hg.tape, hg.output, hg.size, fun k hk hn => hg.block k hk (fun e => hn (hr k e.symm))⟩
theorem Fr.below {base : Nat} (h : Fr (base ≤ ·) a b) (hb : base ≤ a.heap.size) : Below base a b := ⟨h.os, h.tape, h.output, h.size, fun k hk => h.block k (by omega) (by omega)⟩
theorem Fr.belowS (h : Fr S a b) (hS : ∀ k, k < a.heap.size → ¬ S k) : Below a.heap.size a b := ⟨h.os, h.tape, h.output, h.size, fun k hk => h.block k hk (hS k hk)⟩
theorem Fr.of_below (h : Below a.heap.size a b) : Fr S a b := ⟨h.os, h.tape, h.output, h.size, fun k hk _ => h.block k hk⟩
theorem Fr.cell (h : Fr S a b) {p : Addr} {v : Value} (hc : a.cell? p = some v) (hn : ¬ S p.block) : b.cell? p = some v :=
  (World.cell?_of_block (h.block p.block (World.block_lt_of_cell? a p hc) hn)).trans hc
theorem Fr.blk (h : Fr S a b) {k : Nat} {o : Obj} (hc : a.heap[k]? = some o) (hn : ¬ S k) : b.heap[k]? = some o :=
  (h.block k (Array.getElem?_eq_some_iff.1 hc).1 hn).trans hc
theorem Fr.own (h : Fr S a b) {base : Nat} {e : TypeId} {size n : Nat} {v : Value} {xs : List Value} (ho : a.ownsRow base e size v n xs) (hn : ∀ k, v.ownBlock = some k → ¬ S k) : b.ownsRow base e size v n xs :=
  own_move ho fun k hk => h.block k (own_lt ho k hk) (hn k hk)
end

/-- A writer at block g, which has gathered xs; its row and itself are S's, and its row is none of its own. -/
def Wr (w : World) (S : Nat → Prop) (g : Nat) (xs : List Int) : Prop :=
  ∃ v, w.heap[g]? = some (.cells #[.bool true, v] 160 (0, 0)) ∧ S g ∧ w.ownsRow 0 5 1 v xs.length (nums .u8 xs) ∧ ∀ k, v.ownBlock = some k → S k ∧ k ≠ g

theorem alive_any (g : Nat) (m : Bool) (v : Value) (w : World) (h : w.heap[g]? = some (.cells #[.bool m, v] 160 (0, 0))) :
    Calls Try.prog 95 #[.pointer (some ⟨g, 0, none⟩)] w fun e w' => e = .returned (.bool m) ∧ w = w' := by
  have hc : w.cell? ⟨g, 0, none⟩ = some (.bool m) := (blk_cell h 0).trans rfl
  clear h
  go_enter Try.func95, Try.ntmps95
  go_wp2
  go_ret
  exact ⟨rfl, rfl⟩

/-! ### small facts on rows of bytes -/
/-- A slice of bytes that reads as l: its cells. -/
theorem C_cells {w : World} {A : Option Addr} {l : List Int} (h : Kd.C (Kd.int .u8) w A l.length l) : 0 < l.length → ∃ ad, A = some ad ∧ ∀ j v, (nums .u8 l)[j]? = some v → w.cell? (ad.add j) = some v := by
  intro hl
  obtain ⟨ad, e, hc⟩ := h.2.2 hl
  refine ⟨ad, e, fun j v hj => ?_⟩
  simp only [nums, List.getElem?_map, Option.map_eq_some_iff] at hj
  obtain ⟨x, hx, rfl⟩ := hj
  obtain ⟨c, hs, hr, hcell⟩ := hc j x hx
  have hr' : c = [.int .u8 x] := hr
  subst hr'
  have := hcell 0 (.int .u8 x) (by simp)
  simpa [Kd.int, Kd.scalar] using this

theorem nums_one {k : IntKind} {l : List Int} : ∀ v ∈ nums k l, v.oneCell' = true := by
  intro v hv
  simp only [nums, List.mem_map] at hv
  obtain ⟨x, _, rfl⟩ := hv
  rfl

/-- A row of bytes of the call's own, as the printed contracts tell it. -/
theorem R_of_own {w : World} {base : Nat} {v : Value} {l : List Int} (h : w.ownsRow base 5 1 v l.length (nums .u8 l)) : Kd.R (Kd.int .u8) 5 w base (fun _ => True) v l :=
  ⟨fun _ _ => trivial, nums .u8 l, h, by simp [nums, Kd.int, Kd.scalar], fun j p hp => by
    have hj : j < l.length := (List.getElem?_eq_some_iff.1 hp).1
    have hp' : l[j] = p := (List.getElem?_eq_some_iff.1 hp).2
    show _ = [_]
    apply List.ext_getElem
    · simp [nums, Kd.int, Kd.scalar]; omega
    · intro i h1 h2
      have : i = 0 := by simpa using h2
      subst this
      simp [nums, Kd.int, Kd.scalar, hp']⟩
theorem own_of_R {w : World} {base : Nat} {ok : Nat → Prop} {v : Value} {l : List Int} (h : Kd.R (Kd.int .u8) 5 w base ok v l) : w.ownsRow base 5 1 v l.length (nums .u8 l) := by
  obtain ⟨_, inner, ho, hr⟩ := h
  have : inner = nums .u8 l := by
    have hl : inner.length = l.length := by have := hr.1; simpa [Kd.int, Kd.scalar] using this
    apply List.ext_getElem
    · simp [nums, hl]
    · intro i h1 h2
      have hi : i < l.length := by omega
      have := hr.2 i l[i] (List.getElem?_eq_getElem hi)
      have h3 : (inner.drop (i * 1)).take 1 = [.int .u8 l[i]] := this
      rw [Nat.mul_one] at h3
      have h4 := congrArg (fun x => x[0]?) h3
      simp [h1] at h4
      simp [nums, h4]
  subst this
  exact ho
theorem C_of_R {w : World} {base : Nat} {ok : Nat → Prop} {v : Value} {l : List Int} (h : Kd.R (Kd.int .u8) 5 w base ok v l) : ∃ A c, v = .slice A l.length c ∧ l.length ≤ c ∧ Kd.C (Kd.int .u8) w A l.length l := Kd.R_reads h

def copied.f (l : List Int) : Option (List Int) := if l.length ≤ 281474976710656 then some l else none
set_option maxHeartbeats 1000000 in
set_option maxRecDepth 100000 in
theorem copied_calls (A0 : Option Addr) (c0 : Nat) (l0 : List Int) (w : World) (hr0 : Kd.C (Kd.int .u8) w A0 l0.length l0) (hl : l0.length ≤ 281474976710656) :
    Calls Try.prog 96 #[.slice A0 l0.length c0] w fun e w' => ∃ v0_ : Value, e = .returned v0_ ∧ w'.ownsRow w.heap.size 5 1 v0_ l0.length (nums .u8 l0) ∧ Below w.heap.size w w' := by
  have hmk := print_make (P := Try.prog) 31 5 .u8 1 Try.underlying31 (by kernel_rfl) (by decide) l0.length (by omega)
  have hcells := C_cells hr0
  have hmax : l0.length ≤ 9223372036854775807 := hr0.2.1
  have HC := Lib.hid hcells
  clear hcells hr0
  have hlz : (madeCells #[(Value.int .u8 0)] l0.length).toList.length = l0.length := by simp [size_madeCells]
  have HLZ := Lib.hid hlz
  clear hlz
  go_enter Try.func96, Try.ntmps96
  go_wp2_with ((with_reducible refine gate_dst (N := 9) rfl ?_); refine wpList_copy_splice rfl (.tmp 7) (.tmp 8) 31 31 rfl 5 Try.underlying31 (by kernel_rfl) (some ⟨w.heap.size, 0, none⟩) A0 l0.length l0.length l0.length c0 rfl rfl w.heap.size 0 (madeCells #[(Value.int .u8 0)] l0.length).toList 5 ?c1 (nums .u8 l0) ?c2 ?c3 ?c4 nums_one w.heap.size w ?c5 (Nat.le_refl _) ?next)
  case c1 => simpa using heap_alloc_new w _
  case c2 => simp [nums]
  case c3 =>
    intro hp
    obtain ⟨ad, e, hc⟩ := HC.out (by simpa [nums] using hp)
    refine ⟨ad, e, fun j v hj => ?_⟩
    exact pw_cell_below (below_alloc (Below.refl _ _) _) (hc j v hj)
  case c4 => rw [HLZ.out]; simp [nums]
  case c5 => exact below_alloc (Below.refl _ _) _
  case next =>
    intro w' hw' hb
    go_wp2
    go_ret
    refine ⟨_, rfl, ⟨by simp [nums], .inr ⟨w.heap.size, l0.length, _, rfl, Nat.le_refl _, hw'.out, Nat.le_refl _, by unfold maxLen; omega, ?_, ?_⟩⟩, hb⟩
    · first | (simp [splice, nums]; done) | (simp [splice, nums]; have := HLZ.out; simp at this; omega)
    · first | (simp [splice, nums]; done) | (simp [splice, nums]; have := HLZ.out; simp at this; omega)

/-! ### append to a row of one's own: where the new row lies -/
theorem run_append_own2 {P : Program} (w : World) (t ty e : TypeId) (i : TypeInfo) (z : Value) (size bytes : Nat) (ht : P.underlying t = some (.slice e)) (hi : P.info? e = some i) (hz : i.zero = some z)
    (hsize : i.size = size) (hby : i.bytes = bytes) (hzs : z.cells.size = size) (hsz : 0 < size)
    (v : Value) (n : Nat) (xs : List Value) (hown : w.ownsRow 0 e size v n xs)
    (a : Addr) (m c : Nat) (news : List Value) (hl : news.length = m * size) (hnews : ∀ j u, news[j]? = some u → w.cell? (a.add j) = some u) (h1 : ∀ u ∈ news, u.oneCell' = true)
    (h63 : n + m ≤ maxLen) (hbytes : (n + m) * bytes ≤ 140737488355328) :
    ∃ v' w', (Builtin.append_ #[t, t] ty #[v, .slice (some a) m c]).run P w = .ok v' w' ∧ w'.ownsRow 0 e size v' (n + m) (xs ++ news) ∧ w.grownBy w' v.ownBlock ∧
      (∀ k, v'.ownBlock = some k → v.ownBlock = some k ∨ w.heap.size ≤ k) := by
  obtain ⟨v', w', hr, h2, h3, _⟩ := run_append_own (P := P) w 0 t ty e i z size bytes ht hi hz hsize hby hzs hsz v n xs hown a m c news hl hnews h1 h63 hbytes (Nat.zero_le _)
  refine ⟨v', w', hr, h2, h3, ?_⟩
  rcases id hown.2 with ⟨rfl, rfl⟩ | ⟨g, cap, cur, rfl, hb, hg, hnc, hcm, hcs, htake⟩
  · obtain rfl : xs = [] := List.eq_nil_of_length_eq_zero (by simpa using hown.1)
    obtain ⟨v1, w1, hr1, h21, _⟩ := run_append_own (P := P) w w.heap.size t ty e i z size bytes ht hi hz hsize hby hzs hsz (.slice none 0 0) 0 [] (World.ownsRow_nil w _ e size) a m c news hl hnews h1 h63 hbytes (Nat.le_refl _)
    rw [hr] at hr1
    injection hr1 with e1 e2
    subst e1
    exact fun k hk => .inr (h21.lt k hk).1
  · subst hsize
    by_cases hroom : n + m ≤ cap
    · have hfit : n * i.size + news.length ≤ cur.size := by rw [hl, hcs, ← Nat.add_mul]; exact Nat.mul_le_mul_right _ hroom
      have hr1 := run_append_room (P := P) w t ty e i ht hi g n cap cur hg a m c news hl hnews h1 hroom hfit
      rw [hr] at hr1
      injection hr1 with e1 e2
      subst e1
      exact fun k hk => .inl hk
    · have holds := hown.cells (g := g) rfl
      have hr1 := run_append_grow (P := P) w t ty e i z ht hi hz ⟨g, 0, none⟩ n cap xs hown.1 holds a m c news hl hnews (by omega) (by simp only [maxLen] at h63; omega) (growslice_fits (by omega) (by rw [hby]; exact hbytes))
      rw [hr] at hr1
      injection hr1 with e1 e2
      subst e1
      exact fun k hk => .inr (by simp [Value.ownBlock] at hk; omega)

/-- As one step of a region that draws its order. -/
theorem step_append_own2 {P : Program} {ops : Array Oper} {o : Oper} {a : Act} {w : World} {K : Act → World → Prop} {Q : Exit → Act → World → Prop} {E : Prop}
    (hg : o.guard = none) (s x : Operand) (t : TypeId) (hop : o.op = Op.call { callee := Callee.builtin Builtin.append, args := #[s, x], argTypes := #[t, t] })
    (e : TypeId) (i : TypeInfo) (z : Value) (size bytes : Nat) (h1 : P.underlying t = some (.slice e)) (h2 : P.info? e = some i) (h3 : i.zero = some z) (h4 : i.size = size) (h5 : i.bytes = bytes) (h6 : z.cells.size = size) (h7 : 0 < size)
    (v : Value) (n : Nat) (xs : List Value) (hs : a.eval s = v) (hown : w.ownsRow 0 e size v n xs)
    (ad : Addr) (m c : Nat) (news : List Value) (hx : a.eval x = .slice (some ad) m c) (hn : news.length = m * size) (hc : ∀ j u, news[j]? = some u → w.cell? (ad.add j) = some u) (h1c : ∀ u ∈ news, u.oneCell' = true)
    (b1 : n + m ≤ maxLen) (b2 : (n + m) * bytes ≤ 140737488355328)
    (hK : ∀ v' w', w'.ownsRow 0 e size v' (n + m) (xs ++ news) → w.grownBy w' v.ownBlock → (∀ k, v'.ownBlock = some k → v.ownBlock = some k ∨ w.heap.size ≤ k) → K (a.put o.dst v') w') :
    if Region.wanted o (yielded ops a.tmps) = true then Oper.wp P o a w K Q else E := by
  have hw : Region.wanted o (yielded ops a.tmps) = true := by simp [Region.wanted, hg]
  rw [if_pos hw]
  obtain ⟨v', w', hr, r1, r2, r3⟩ := run_append_own2 (P := P) w t o.type e i z size bytes h1 h2 h3 h4 h5 h6 h7 v n xs hown ad m c news hn hc h1c b1 b2
  unfold Oper.wp execOp
  simp only [hop, resolve, invoke, builtin, Sem.run_bind, Sem.run_pure, Result.andThen_ok, List.map_toArray, List.map_cons, List.map_nil, hs, hx, hr]
  exact hK v' w' r1 r2 r3

theorem run_append_none {P : Program} {w : World} (t ty e : TypeId) (i : TypeInfo) (size : Nat) (ht : P.underlying t = some (.slice e)) (hi : P.info? e = some i)
    (v : Value) (n c : Nat) (xs : List Value) (hown : w.ownsRow 0 e size v n xs) :
    (Builtin.append_ #[t, t] ty #[v, .slice none 0 c]).run P w = .ok v w := by
  rcases hown.2 with ⟨rfl, rfl⟩ | ⟨g, cap, cur, rfl, _, _, hnc, _⟩
  · simp [Builtin.append_, run_underlying ht, sizeOf, typeInfo, hi, Builtin.lenOf, Builtin.firstCells]
  · simp [Builtin.append_, run_underlying ht, sizeOf, typeInfo, hi, Builtin.lenOf, Builtin.firstCells, hnc, storeCells]

/-- append of a slice of bytes that is read (nil and empty ones alike), outside of a region that draws. -/
theorem wpList_append_bytes {P : Program} {w : World} {ops : Array Oper} {rest : List Oper} {o : Oper} {a : Act} {Q : Exit → Act → World → Prop} (hgd : o.guard = none) (s x : Operand) (t : TypeId)
    (hop : o.op = .call { callee := .builtin .append, args := #[s, x], argTypes := #[t, t] })
    (e : TypeId) (i : TypeInfo) (z : Value) (h1 : P.underlying t = some (.slice e)) (h2 : P.info? e = some i) (h3 : i.zero = some z) (h4 : i.size = 1) (h5 : i.bytes = 1) (h6 : z.cells.size = 1)
    (v : Value) (xs : List Int) (hs : a.eval s = v) (hown : w.ownsRow 0 e 1 v xs.length (nums .u8 xs))
    (A : Option Addr) (ys : List Int) (m c : Nat) (hm : ys.length = m) (hx : a.eval x = .slice A m c) (hC : Kd.C (Kd.int .u8) w A ys.length ys)
    (b : xs.length + ys.length ≤ 140737488355328)
    (hK : ∀ v' w', w'.ownsRow 0 e 1 v' (xs ++ ys).length (nums .u8 (xs ++ ys)) → w.grownBy w' v.ownBlock → (∀ k, v'.ownBlock = some k → v.ownBlock = some k ∨ w.heap.size ≤ k) → wpList P ops Q rest (a.put o.dst v') w') : wpList P ops Q (o :: rest) a w := by
  subst hm
  cases A with
  | none =>
    have hz : ys.length = 0 := by
      rcases Nat.eq_zero_or_pos ys.length with h0 | h0
      · exact h0
      · obtain ⟨ad, he, _⟩ := C_cells hC h0
        cases he
    obtain rfl : ys = [] := List.eq_nil_of_length_eq_zero hz
    refine wpList_plain hgd fun K hK' => ?_
    have hr := run_append_none (P := P) t o.type e i 1 h1 h2 v xs.length c (nums .u8 xs) hown
    unfold Oper.wp execOp
    simp only [hop, resolve, invoke, builtin, Sem.run_bind, Sem.run_pure, Result.andThen_ok, List.map_toArray, List.map_cons, List.map_nil, hs, hx, List.length_nil, hr]
    exact hK' _ _ (hK v w (by simpa using hown) ⟨rfl, rfl, rfl, Nat.le_refl _, fun _ _ _ => rfl⟩ (fun k hk => .inl hk))
  | some ad =>
    refine wpList_plain hgd fun K hK' => ?_
    have hcells : ∀ j u, (nums .u8 ys)[j]? = some u → w.cell? (ad.add j) = some u := by
      intro j u hj
      have hp : 0 < ys.length := by have := (List.getElem?_eq_some_iff.1 hj).1; simp [nums] at this; omega
      obtain ⟨ad', he, hc⟩ := C_cells hC hp
      injection he with he
      subst he
      exact hc j u hj
    obtain ⟨v', w', hr, r1, r2, r3⟩ := run_append_own2 (P := P) w t o.type e i z 1 1 h1 h2 h3 h4 h5 h6 (by decide) v xs.length (nums .u8 xs) hown ad ys.length c (nums .u8 ys) (by simp [nums]) hcells nums_one (by unfold maxLen; omega) (by omega)
    unfold Oper.wp execOp
    simp only [hop, resolve, invoke, builtin, Sem.run_bind, Sem.run_pure, Result.andThen_ok, List.map_toArray, List.map_cons, List.map_nil, hs, hx, hr]
    exact hK' _ _ (hK v' w' (by rw [List.length_append, nums_append]; exact r1) r2 r3)

theorem info_u8 : (Try.prog.info? 5).map (fun i => (i.zero, i.size, i.bytes)) = some (some (.int .u8 0), 1, 1) := by kernel_rfl

/-- The number v in n bytes, the highest first. -/
def be (v : Int) (n : Nat) : List Int := (List.range n).map fun j => v / 256 ^ (n - 1 - j) % 256
theorem be_length (v : Int) (n : Nat) : (be v n).length = n := by simp [be]
theorem be_take (v : Int) (n k : Nat) (h : k < n) : (be v n).take (k + 1) = (be v n).take k ++ [v / 256 ^ (n - 1 - k) % 256] := by
  rw [List.take_succ_eq_append_getElem (by simpa [be] using h)]
  simp [be]

theorem NewWriter_calls (w : World) :
    Calls Try.prog 64 #[] w fun e w' => e = .returned (.pointer (some ⟨w.heap.size, 0, none⟩)) ∧ w' = w.alloc (.cells #[.bool true, .slice none 0 0] 160) := by
  go_enter Try.func64, Try.ntmps64
  go_wp2
  go_ret
  exact ⟨rfl, rfl⟩

theorem Wr_new (w : World) (S : Nat → Prop) (hS : S w.heap.size) : Wr (w.alloc (.cells #[.bool true, .slice none 0 0] 160)) S w.heap.size [] :=
  ⟨.slice none 0 0, heap_alloc_new w _, hS, own_nil _ _ _ _, fun k hk => by simp [Value.ownBlock] at hk⟩

/-- Behind an append to a writer's row, and the store of what came of it. -/
theorem Wr_put {S : Nat → Prop} {g : Nat} {L ys : List Int} {v1 v' : Value} {wr wx w' : World} (hb1 : wr.heap[g]? = some (.cells #[.bool true, v1] 160 (0, 0))) (hg1 : S g) (hne1 : ∀ k, v1.ownBlock = some k → S k ∧ k ≠ g)
    (hS : ∀ k, wr.heap.size ≤ k → S k) (hx : Fr S wr wx) (hgrow : wx.grownBy w' v1.ownBlock) (hbx : wx.heap[g]? = wr.heap[g]?)
    (hown : w'.ownsRow 0 5 1 v' (L ++ ys).length (nums .u8 (L ++ ys))) (hnew : ∀ k, v'.ownBlock = some k → v1.ownBlock = some k ∨ wx.heap.size ≤ k) :
    w'.heap[g]? = some (.cells #[.bool true, v1] 160 (0, 0)) ∧ Wr (w'.setCell ⟨g, 1, none⟩ v') S g (L ++ ys) ∧ Fr S wr (w'.setCell ⟨g, 1, none⟩ v') := by
  have hlt : g < wr.heap.size := (Array.getElem?_eq_some_iff.1 hb1).1
  have hb : w'.heap[g]? = some (.cells #[.bool true, v1] 160 (0, 0)) := by
    rw [hgrow.block g (Nat.lt_of_lt_of_le hlt hx.size) (fun e => (hne1 g e.symm).2 rfl), hbx]
    exact hb1
  have hfr : Fr S wr w' := hx.trans ⟨hgrow.os, hgrow.tape, hgrow.output, hgrow.size, fun k hk hn => hgrow.block k hk (fun e => hn (hne1 k e.symm).1)⟩
  have hk' : ∀ k, v'.ownBlock = some k → S k ∧ k ≠ g := by
    intro k hk
    rcases hnew k hk with h | h
    · exact hne1 k h
    · have := hx.size
      exact ⟨hS k (by omega), by omega⟩
  refine ⟨hb, ⟨v', ?_, hg1, own_move hown (fun k hk => Below.heap_setCell _ _ _ _ (hk' k hk).2), hk'⟩, hfr.setCell (p := ⟨g, 1, none⟩) hg1 _⟩
  rw [blk_set hb]
  rfl

theorem wr_form {w : World} {base : Nat} {e : TypeId} {v : Value} {L : List Int} (h : w.ownsRow base e 1 v L.length (nums .u8 L)) : ∃ A c, v = .slice A L.length c := by
  rcases h.2 with ⟨rfl, h0⟩ | ⟨gg, cap, cur, rfl, _⟩
  · exact ⟨none, 0, by rw [h0]⟩
  · exact ⟨_, cap, rfl⟩

set_option maxHeartbeats 1000000 in
set_option maxRecDepth 100000 in
theorem number_any (S : Nat → Prop) (g : Nat) (xs : List Int) (v : Int) (n : Nat) (hn : n ≤ 8) (w : World) (h : Wr w S g xs) (hS : ∀ k, w.heap.size ≤ k → S k) (hlen : xs.length + n ≤ 140737488355328) :
    Calls Try.prog 94 #[.pointer (some ⟨g, 0, none⟩), .int .u64 v, .int .i64 n] w fun e w' => e = .returned (.tuple #[]) ∧ Wr w' S g (xs ++ be v n) ∧ Fr S w w' := by
  obtain ⟨i0, hi, hz0, hz1, hz2⟩ := info_parts info_u8
  obtain ⟨v0, hb0, hg, ho, hne⟩ := id h
  clear ho hne
  have HG := Lib.hid hg
  clear hg
  have H := Lib.hid h
  clear h
  have HS := Lib.hid hS
  clear hS
  go_enter Try.func94, Try.ntmps94
  go_wp2_with (go_at_call 95; refine (alive_any _ _ _ _ hb0).mono ?_; rintro e w' ⟨rfl, rfl⟩)
  clear hb0
  go_loopw [6] (fun i wr => ∃ k : Nat, k ≤ n ∧ i = .int .i64 ((n : Int) - 1 - k) ∧ Wr wr S g (xs ++ (be v n).take k) ∧ Fr S w wr) (fun i _ => (intOf i + 1).toNat)
  case atStart => exact ⟨0, Nat.zero_le _, by first | rfl | (congr 1; omega), by simpa using H.out, Fr.refl _ _⟩
  case round =>
    obtain ⟨k, hk, rfl, hw, hfr⟩ := hrel
    by_cases hlt : k < n
    · have hge : (0 : Int) ≤ (n : Int) - 1 - k := by omega
      go_wp2_with fail
      obtain ⟨L, hL⟩ : ∃ L, L = xs ++ (be v n).take k := ⟨_, rfl⟩
      rw [← hL] at hw
      have hLl : L.length = xs.length + k := by rw [hL]; simp [be_length]; omega
      have HL := Lib.hid hL
      have HLL := Lib.hid hLl
      clear hL hLl
      have hsh : Op.shift .shr .u64 v .i64 (IntKind.i64.wrap (8 * ((n : Int) - 1 - k))) = pure (.int .u64 (v / 256 ^ (n - 1 - k))) := by
        rw [show IntKind.i64.wrap (8 * ((n : Int) - 1 - k)) = 8 * ((n : Int) - 1 - k) from IntWalk.i64_in _ (by omega), Go.shift_shr .u64 .i64 v _ (by omega) (by have : IntKind.u64.bits = 64 := rfl; omega)]
        rw [show (8 * ((n : Int) - 1 - k)).toNat = 8 * (n - 1 - k) by omega, Int.pow_mul]
        rfl
      obtain ⟨v1, hb1, hg1, ho1, hne1⟩ := hw
      obtain ⟨A1, cp1, rfl⟩ := wr_form ho1
      have hc1 : wr.cell? ⟨g, 1, none⟩ = some _ := (blk_cell hb1 1).trans rfl
      have hf1 : wr.frozen? ⟨g, 1, none⟩ = false := blk_frozen hb1 1
      have hglt : g < wr.heap.size := blk_lt hb1
      have HO := Lib.hid ho1
      have HB1 := Lib.hid hb1
      have HN := Lib.hid hne1
      have HF := Lib.hid hfr
      have HX : Hid (∀ k, wr.heap.size ≤ k → S k) := Lib.hid (fun k hk => HS.out k (Nat.le_trans hfr.size hk))
      clear ho1 hb1 hne1 hfr
      have PUT := fun (b : Int) (hb : b = v / 256 ^ (n - 1 - k) % 256) (v' : Value) (w' : World) (hown : w'.ownsRow 0 5 1 v' (L.length + 1) (nums .u8 L ++ [.int .u8 b])) (hgrow : (wr.drew.alloc (.cells #[.int .u8 b] 5)).grownBy w' (Value.slice A1 L.length cp1).ownBlock) (hnew : ∀ k, v'.ownBlock = some k → (Value.slice A1 L.length cp1).ownBlock = some k ∨ (wr.drew.alloc (.cells #[.int .u8 b] 5)).heap.size ≤ k) =>
        Wr_put (ys := [b]) (v' := v') (w' := w') HB1.out HG.out HN.out HX.out (((Fr.refl S wr).drew).alloc (.cells #[.int .u8 b] 5)) hgrow (Below.heap_alloc _ _ _ (blk_lt HB1.out)) (by rw [List.length_append, nums_append]; exact hown) hnew
      have PUT := Lib.hid PUT
      go_region_law (refine step_append_own2 rfl (.tmp 20) (.tmp 26) 31 rfl 5 i0 (.int .u8 0) 1 1 Try.underlying31 hi hz0 hz1 hz2 rfl (by decide) _ L.length (nums .u8 L) rfl ((World.ownsRow.drew HO.out).alloc _) ⟨wr.heap.size, 0, none⟩ 1 1 [.int .u8 _] rfl rfl (cell_one_new _ _ _) (by intro u hu; rw [List.mem_singleton.1 hu]; rfl) (by have := HLL.out; unfold maxLen; omega) (by have := HLL.out; omega) ?_; intro v' w' hown hgrow hnew; (have Z := PUT.out _ rfl v' w' hown hgrow hnew); (obtain ⟨g', cap', hv', _⟩ := hown.form (by omega)); subst hv'; clear hown hgrow hnew; (have hcz : w'.cell? ⟨g, 1, none⟩ = some _ := (blk_cell Z.1 1).trans rfl); (have hfz : w'.frozen? ⟨g, 1, none⟩ = false := blk_frozen Z.1 1); (have ZZ := Lib.hid Z.2); clear Z)
      all_goals
        go_wp2
        go_roundw
        case rel => exact ⟨k + 1, by omega, by first | rfl | (congr 1; omega), by rw [be_take v n k hlt, ← List.append_assoc, ← HL.out]; exact ZZ.out.1, HF.out.trans ZZ.out.2⟩
        case measure => simp [intOf]; omega
    · obtain rfl : k = n := by omega
      go_wp2
      go_end0
      refine ⟨rfl, ?_, hfr⟩
      rw [List.take_of_length_le (by rw [be_length]; exact Nat.le_refl _)] at hw
      exact hw


theorem U16_calls (S : Nat → Prop) (g : Nat) (xs : List Int) (v : Int) (hv0 : 0 ≤ v) (hv1 : v ≤ 65535) (w : World) (h : Wr w S g xs) (hS : ∀ k, w.heap.size ≤ k → S k) (hlen : xs.length + 2 ≤ 140737488355328) :
    Calls Try.prog 70 #[.pointer (some ⟨g, 0, none⟩), .int .u16 v] w fun e w' => e = .returned (.tuple #[]) ∧ Wr w' S g (xs ++ be v 2) ∧ Fr S w w' := by
  have H := Lib.hid h
  clear h
  have HS := Lib.hid hS
  clear hS
  go_enter Try.func70, Try.ntmps70
  go_wp2_with (go_at_call 94; go_must (refine (number_any S g xs v 2 (by omega) w H.out HS.out hlen).mono ?_); rintro e w' ⟨rfl, h1, h2⟩; (have HH := Lib.hid (And.intro h1 h2)); clear h1 h2)
  go_end0
  exact ⟨rfl, HH.out.1, HH.out.2⟩

theorem U32_calls (S : Nat → Prop) (g : Nat) (xs : List Int) (v : Int) (hv0 : 0 ≤ v) (hv1 : v ≤ 4294967295) (w : World) (h : Wr w S g xs) (hS : ∀ k, w.heap.size ≤ k → S k) (hlen : xs.length + 4 ≤ 140737488355328) :
    Calls Try.prog 66 #[.pointer (some ⟨g, 0, none⟩), .int .u32 v] w fun e w' => e = .returned (.tuple #[]) ∧ Wr w' S g (xs ++ be v 4) ∧ Fr S w w' := by
  have H := Lib.hid h
  clear h
  have HS := Lib.hid hS
  clear hS
  go_enter Try.func66, Try.ntmps66
  go_wp2_with (go_at_call 94; go_must (refine (number_any S g xs v 4 (by omega) w H.out HS.out hlen).mono ?_); rintro e w' ⟨rfl, h1, h2⟩; (have HH := Lib.hid (And.intro h1 h2)); clear h1 h2)
  go_end0
  exact ⟨rfl, HH.out.1, HH.out.2⟩

theorem U64_calls (S : Nat → Prop) (g : Nat) (xs : List Int) (v : Int) (w : World) (h : Wr w S g xs) (hS : ∀ k, w.heap.size ≤ k → S k) (hlen : xs.length + 8 ≤ 140737488355328) :
    Calls Try.prog 65 #[.pointer (some ⟨g, 0, none⟩), .int .u64 v] w fun e w' => e = .returned (.tuple #[]) ∧ Wr w' S g (xs ++ be v 8) ∧ Fr S w w' := by
  have H := Lib.hid h
  clear h
  have HS := Lib.hid hS
  clear hS
  go_enter Try.func65, Try.ntmps65
  go_wp2_with (go_at_call 94; go_must (refine (number_any S g xs v 8 (by omega) w H.out HS.out hlen).mono ?_); rintro e w' ⟨rfl, h1, h2⟩; (have HH := Lib.hid (And.intro h1 h2)); clear h1 h2)
  go_end0
  exact ⟨rfl, HH.out.1, HH.out.2⟩

theorem Raw_calls (S : Nat → Prop) (g : Nat) (xs : List Int) (A : Option Addr) (c : Nat) (ys : List Int) (w : World) (h : Wr w S g xs) (hS : ∀ k, w.heap.size ≤ k → S k) (hC : Kd.C (Kd.int .u8) w A ys.length ys) (hlen : xs.length + ys.length ≤ 140737488355328) :
    Calls Try.prog 67 #[.pointer (some ⟨g, 0, none⟩), .slice A ys.length c] w fun e w' => e = .returned (.tuple #[]) ∧ Wr w' S g (xs ++ ys) ∧ Fr S w w' := by
  obtain ⟨i0, hi, hz0, hz1, hz2⟩ := info_parts info_u8
  obtain ⟨v0, hb0, hg, ho, hne⟩ := h
  obtain ⟨A1, cp1, rfl⟩ := wr_form ho
  have hc1 : w.cell? ⟨g, 1, none⟩ = some _ := (blk_cell hb0 1).trans rfl
  have HG := Lib.hid hg
  have HO := Lib.hid ho
  have HN := Lib.hid hne
  have HC := Lib.hid hC
  have HL := Lib.hid hlen
  clear hg ho hne hC hlen
  have HS := Lib.hid hS
  clear hS
  go_enter Try.func67, Try.ntmps67
  go_wp2_with (first | (go_at_call 95; refine (alive_any _ _ _ _ hb0).mono ?_; rintro e w' ⟨rfl, rfl⟩) | (at_builtin; go_must (refine wpList_append_bytes rfl (.tmp 10) (.tmp 11) 31 rfl 5 i0 (.int .u8 0) Try.underlying31 hi hz0 hz1 hz2 rfl _ xs rfl HO.out A ys ys.length c rfl rfl HC.out HL.out ?_); intro v' w' hown hgrow hnew; (have Z := Wr_put hb0 HG.out HN.out HS.out (Fr.refl S w) hgrow rfl hown hnew); (obtain ⟨A', cap', hv'⟩ := wr_form hown); subst hv'; clear hown hgrow hnew; (have hcz : w'.cell? ⟨g, 1, none⟩ = some _ := (blk_cell Z.1 1).trans rfl); (have hfz : w'.frozen? ⟨g, 1, none⟩ = false := blk_frozen Z.1 1); (have ZZ := Lib.hid Z.2); clear Z))
  go_end0
  have Z2 := ZZ.out
  rw [List.length_append] at Z2
  exact ⟨rfl, Z2.1, Z2.2⟩

theorem Out_calls (S : Nat → Prop) (g : Nat) (xs : List Int) (w : World) (h : Wr w S g xs) (hlen : xs.length ≤ 140737488355328) :
    Calls Try.prog 68 #[.pointer (some ⟨g, 0, none⟩)] w fun e w' => ∃ v0_ : Value, e = .returned v0_ ∧ w'.ownsRow w.heap.size 5 1 v0_ xs.length (nums .u8 xs) ∧ Below w.heap.size w w' := by
  obtain ⟨v0, hb0, hg, ho, hne⟩ := h
  obtain ⟨A1, cp1, rfl⟩ := wr_form ho
  have hc1 : w.cell? ⟨g, 1, none⟩ = some _ := (blk_cell hb0 1).trans rfl
  have hC : Kd.C (Kd.int .u8) w A1 xs.length xs := by
    obtain ⟨A', c', he, _, hC⟩ := C_of_R (R_of_own ho)
    injection he with h1 h2 h3
    subst h1
    exact hC
  have HC := Lib.hid hC
  clear hC ho hne hg
  go_enter Try.func68, Try.ntmps68
  go_wp2_with (first | (go_at_call 95; refine (alive_any _ _ _ _ hb0).mono ?_; rintro e w' ⟨rfl, rfl⟩) | (go_at_call 96; go_must (refine (copied_calls A1 cp1 xs _ HC.out (by omega)).mono ?_); rintro e w' ⟨v, rfl, h1, h2⟩; (have HH := Lib.hid (And.intro h1 h2)); clear h1 h2))
  go_ret
  exact ⟨_, rfl, HH.out.1, HH.out.2⟩


theorem zeroCells_u8 (m : Nat) : (Builtin.zeroCells #[.int .u8 0] m).toList = nums .u8 (List.replicate m 0) := by
  apply List.ext_getElem
  · simp [nums, Builtin.zeroCells]
  · intro i h1 h2
    simp [nums, Builtin.zeroCells, Nat.mod_one]

theorem wpList_append_zeros2 {P : Program} {w : World} {ops : Array Oper} {rest : List Oper} {o : Oper} {a : Act} {Q : Exit → Act → World → Prop} (hgd : o.guard = none) (s x : Operand) (t ti : TypeId)
    (hop : o.op = .call { callee := .builtin .append, args := #[s, x], argTypes := #[t, ti] })
    (e : TypeId) (i : TypeInfo) (h1 : P.underlying t = some (.slice e)) {k : IntKind} (hti : P.underlying ti = some (.int k)) (h2 : P.info? e = some i) (h3 : i.zero = some (.int .u8 0)) (h4 : i.size = 1) (h5 : i.bytes = 1)
    (v : Value) (xs : List Int) (hs : a.eval s = v) (hown : w.ownsRow 0 e 1 v xs.length (nums .u8 xs))
    (m : Nat) (hx : a.eval x = .int .i64 (m : Int)) (b : xs.length + m ≤ 140737488355328)
    (hK : ∀ v' w', w'.ownsRow 0 e 1 v' (xs ++ List.replicate m 0).length (nums .u8 (xs ++ List.replicate m 0)) → w.grownBy w' v.ownBlock → (∀ k, v'.ownBlock = some k → v.ownBlock = some k ∨ w.heap.size ≤ k) → wpList P ops Q rest (a.put o.dst v') w') : wpList P ops Q (o :: rest) a w := by
  refine wpList_plain hgd fun K hK' => ?_
  obtain ⟨v', w', hr, r1, r2, r3⟩ := run_append_zeros (P := P) w 0 t ti o.type e i (.int .u8 0) 1 1 h1 hti h2 h3 h4 h5 rfl (by decide) (by decide) v xs.length (nums .u8 xs) hown .i64 m (by show ∀ u ∈ (Builtin.zeroCells #[.int .u8 0] m).toList, _; rw [zeroCells_u8]; exact nums_one) (by omega) (Nat.zero_le _)
  have r1' : w'.ownsRow 0 e 1 v' (xs.length + m) (nums .u8 xs ++ (Builtin.zeroCells #[.int .u8 0] m).toList) := r1
  rw [zeroCells_u8] at r1'
  unfold Oper.wp execOp
  simp only [hop, resolve, invoke, builtin, Sem.run_bind, Sem.run_pure, Result.andThen_ok, List.map_toArray, List.map_cons, List.map_nil, hs, hx, hr]
  refine hK' _ _ (hK v' w' (by rw [List.length_append, nums_append, List.length_replicate]; exact r1') r2 (fun k hk => ?_))
  rcases r3 with h | h
  · exact .inl (by rw [← h]; exact hk)
  · exact .inr (by rw [hk] at h; injection h with h; omega)

set_option maxRecDepth 100000 in
theorem Zeros_calls (S : Nat → Prop) (g : Nat) (xs : List Int) (n : Nat) (hn : n ≤ 2097152) (w : World) (h : Wr w S g xs) (hS : ∀ k, w.heap.size ≤ k → S k) (hlen : xs.length + n ≤ 140737488355328) :
    Calls Try.prog 74 #[.pointer (some ⟨g, 0, none⟩), .int .i64 n] w fun e w' => e = .returned (.int .i64 0) ∧ Wr w' S g (xs ++ List.replicate n 0) ∧ Fr S w w' := by
  obtain ⟨i0, hi, hz0, hz1, hz2⟩ := info_parts info_u8
  obtain ⟨v0, hb0, hg, ho, hne⟩ := h
  obtain ⟨A1, cp1, rfl⟩ := wr_form ho
  have hc1 : w.cell? ⟨g, 1, none⟩ = some _ := (blk_cell hb0 1).trans rfl
  have HG := Lib.hid hg
  have HO := Lib.hid ho
  have HN := Lib.hid hne
  have HL := Lib.hid hlen
  clear hg ho hne hlen
  have HS := Lib.hid hS
  clear hS
  go_enter Try.func74, Try.ntmps74
  go_wp2_with (first | (go_at_call 95; refine (alive_any _ _ _ _ hb0).mono ?_; rintro e w' ⟨rfl, rfl⟩) | (at_builtin; go_must (refine wpList_append_zeros2 rfl (.tmp 19) (.tmp 20) 31 3 rfl 5 i0 Try.underlying31 Try.underlying3 hi hz0 hz1 hz2 _ xs rfl HO.out n rfl HL.out ?_); intro v' w' hown hgrow hnew; (have Z := Wr_put hb0 HG.out HN.out HS.out (Fr.refl S w) hgrow rfl hown hnew); (obtain ⟨A', cap', hv'⟩ := wr_form hown); subst hv'; clear hown hgrow hnew; (have hcz : w'.cell? ⟨g, 1, none⟩ = some _ := (blk_cell Z.1 1).trans rfl); (have hfz : w'.frozen? ⟨g, 1, none⟩ = false := blk_frozen Z.1 1); (have ZZ := Lib.hid Z.2); clear Z))
  go_ret
  have Z2 := ZZ.out
  simp only [List.length_append, List.length_replicate] at Z2
  exact ⟨rfl, Z2.1, Z2.2⟩

end Go.Proofs.Ytilgfhiomcfmhaa.Octa
