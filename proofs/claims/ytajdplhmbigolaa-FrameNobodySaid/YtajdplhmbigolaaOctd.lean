/- Bytes that are read, cut and appended: run equations for regions that draw their order. -/
import Derived.Test.YtajdplhmbigolaaOctc
namespace Go.Proofs.Ytajdplhmbigolaa.Octa
open Go.RowKit Go.Proofs.YtajdplhmbigolaaW.PrintWords Go.Proofs.YtajdplhmbigolaaW.PrintLast

theorem C_iff {w : World} {A : Option Addr} {l : List Int} : Kd.C (Kd.int .u8) w A l.length l ↔ ReadsOf (Value.int .u8) (0 : Int) w A l.length l := by
  constructor
  · intro h
    refine ⟨rfl, h.2.1, fun hp => ?_⟩
    obtain ⟨ad, e, hc⟩ := C_cells h hp
    exact ⟨ad, e, fun j hj => hc j _ (by simp [nums, List.getD_eq_getElem?_getD, List.getElem?_eq_getElem hj])⟩
  · intro h
    refine ⟨rfl, h.2.1, fun hp => ?_⟩
    obtain ⟨ad, e, hc⟩ := h.2.2 hp
    refine ⟨ad, e, fun j x hj => ?_⟩
    obtain ⟨hlt, hx⟩ := List.getElem?_eq_some_iff.1 hj
    refine ⟨[.int .u8 x], rfl, rfl, fun i v hi => ?_⟩
    have : i = 0 := by
      rcases Nat.eq_zero_or_pos i with h | h
      · exact h
      · rw [List.getElem?_eq_none (by simp; omega)] at hi; cases hi
    subst this
    simp at hi
    subst hi
    have := hc j hlt
    rw [List.getD_eq_getElem?_getD, hj] at this
    simpa [Kd.int, Kd.scalar] using this

/-- b[lo:hi] of bytes that are read. -/
theorem C_mid (A : Option Addr) (c : Nat) (xs : List Int) (a n : Nat) (hm : a + n ≤ xs.length) (hc : xs.length ≤ c) :
    ∃ A' : Option Addr, (∀ W : World, (Instr.slice 22 (.slice A xs.length c) (some (.int .i64 (a : Int))) (some (.int .i64 ((a : Int) + (n : Int)))) none).run Try.prog W = .ok (.slice A' ((xs.take (a + n)).drop a).length (c - a)) W) ∧
      (∀ w : World, Kd.C (Kd.int .u8) w A xs.length xs → Kd.C (Kd.int .u8) w A' ((xs.take (a + n)).drop a).length ((xs.take (a + n)).drop a)) ∧ ((xs.take (a + n)).drop a).length ≤ c - a := by
  obtain ⟨i0, hi, hz0, hz1, hz2⟩ := info_parts info_u8
  obtain ⟨A', h2, h3, h4⟩ := print_mid_of (P := Try.prog) (Value.int .u8) (0 : Int) 22 5 .i64 .i64 Try.underlying22 hi hz1 A c xs a ((a : Int) + (n : Int)) (Int.natCast_nonneg _) (by omega) (by omega) hc
  have e : ((a : Int) + (n : Int)).toNat = a + n := by omega
  rw [e] at h2 h3 h4
  exact ⟨A', h2, fun w h => C_iff.2 (h3 w (C_iff.1 h)), h4⟩

/-- b[lo:] of bytes that are read. -/
theorem C_from (A : Option Addr) (c : Nat) (xs : List Int) (a : Nat) (hm : a ≤ xs.length) (hc : xs.length ≤ c) :
    ∃ A' : Option Addr, (∀ W : World, (Instr.slice 22 (.slice A xs.length c) (some (.int .i64 (a : Int))) none none).run Try.prog W = .ok (.slice A' (xs.drop a).length (c - a)) W) ∧
      (∀ w : World, Kd.C (Kd.int .u8) w A xs.length xs → Kd.C (Kd.int .u8) w A' (xs.drop a).length (xs.drop a)) ∧ (xs.drop a).length ≤ c - a := by
  obtain ⟨i0, hi, hz0, hz1, hz2⟩ := info_parts info_u8
  obtain ⟨A', h2, h3, h4⟩ := print_drop_of (P := Try.prog) (Value.int .u8) (0 : Int) 22 5 .i64 Try.underlying22 hi hz1 A c xs a (Int.natCast_nonneg _) (by omega) hc
  rw [Int.toNat_natCast] at h2 h3 h4
  exact ⟨A', h2, fun w h => C_iff.2 (h3 w (C_iff.1 h)), h4⟩

/-- A store where no byte of these lies. -/
theorem C_set {w : World} {A : Option Addr} {l : List Int} (h : Kd.C (Kd.int .u8) w A l.length l) {p : Addr} {u : Value} (hp : w.cell? p = some u) (hu : ∀ x, u ≠ .int .u8 x) (v : Value) : Kd.C (Kd.int .u8) (w.setCell p v) A l.length l := by
  rw [C_iff] at h ⊢
  refine ⟨rfl, h.2.1, fun hl => ?_⟩
  obtain ⟨ad, e, hc⟩ := h.2.2 hl
  refine ⟨ad, e, fun j hj => ?_⟩
  rw [World.cell?_setCell_other]
  · exact hc j hj
  · rintro rfl
    have := hc j hj
    rw [hp] at this
    exact hu _ (Option.some.inj this)
theorem C_heap {w w' : World} {A : Option Addr} {l : List Int} (h : Kd.C (Kd.int .u8) w A l.length l) (hh : w'.heap = w.heap) : Kd.C (Kd.int .u8) w' A l.length l := by
  rw [C_iff] at h ⊢
  refine ⟨rfl, h.2.1, fun hl => ?_⟩
  obtain ⟨ad, e, hc⟩ := h.2.2 hl
  exact ⟨ad, e, fun j hj => (World.cell?_of_block (by rw [hh])).trans (hc j hj)⟩

theorem run_append_bytes {P : Program} (w : World) (t ty e : TypeId) (i : TypeInfo) (z : Value) (h1 : P.underlying t = some (.slice e)) (h2 : P.info? e = some i) (h3 : i.zero = some z) (h4 : i.size = 1) (h5 : i.bytes = 1) (h6 : z.cells.size = 1)
    (v : Value) (xs : List Int) (hown : w.ownsRow 0 e 1 v xs.length (nums .u8 xs))
    (A : Option Addr) (ys : List Int) (c : Nat) (hC : Kd.C (Kd.int .u8) w A ys.length ys) (b : xs.length + ys.length ≤ 140737488355328) :
    ∃ v' w', (Builtin.append_ #[t, t] ty #[v, .slice A ys.length c]).run P w = .ok v' w' ∧ w'.ownsRow 0 e 1 v' (xs ++ ys).length (nums .u8 (xs ++ ys)) ∧ w.grownBy w' v.ownBlock ∧ (∀ k, v'.ownBlock = some k → v.ownBlock = some k ∨ w.heap.size ≤ k) := by
  cases A with
  | none =>
    have hz : ys.length = 0 := by
      rcases Nat.eq_zero_or_pos ys.length with h0 | h0
      · exact h0
      · obtain ⟨ad, he, _⟩ := C_cells hC h0
        cases he
    obtain rfl : ys = [] := List.eq_nil_of_length_eq_zero hz
    exact ⟨v, w, run_append_none (P := P) t ty e i 1 h1 h2 v xs.length c (nums .u8 xs) hown, by simpa using hown, ⟨rfl, rfl, rfl, Nat.le_refl _, fun _ _ _ => rfl⟩, fun k hk => .inl hk⟩
  | some ad =>
    have hcells : ∀ j u, (nums .u8 ys)[j]? = some u → w.cell? (ad.add j) = some u := by
      intro j u hj
      have hp : 0 < ys.length := by have := (List.getElem?_eq_some_iff.1 hj).1; simp [nums] at this; omega
      obtain ⟨ad', he, hc⟩ := C_cells hC hp
      injection he with he
      subst he
      exact hc j u hj
    obtain ⟨v', w', hr, r1, r2, r3⟩ := run_append_own2 (P := P) w t ty e i z 1 1 h1 h2 h3 h4 h5 h6 (by decide) v xs.length (nums .u8 xs) hown ad ys.length c (nums .u8 ys) (by simp [nums]) hcells nums_one (by unfold maxLen; omega) (by omega)
    exact ⟨v', w', hr, by rw [List.length_append, nums_append]; exact r1, r2, r3⟩

/-- As one step of a region that draws its order. -/
theorem step_append_bytes {P : Program} {ops : Array Oper} {o : Oper} {a : Act} {w : World} {K : Act → World → Prop} {Q : Exit → Act → World → Prop} {E : Prop}
    (hg : o.guard = none) (s x : Operand) (t : TypeId) (hop : o.op = Op.call { callee := Callee.builtin Builtin.append, args := #[s, x], argTypes := #[t, t] })
    (e : TypeId) (i : TypeInfo) (z : Value) (h1 : P.underlying t = some (.slice e)) (h2 : P.info? e = some i) (h3 : i.zero = some z) (h4 : i.size = 1) (h5 : i.bytes = 1) (h6 : z.cells.size = 1)
    (v : Value) (xs : List Int) (hs : a.eval s = v) (hown : w.ownsRow 0 e 1 v xs.length (nums .u8 xs))
    (A : Option Addr) (ys : List Int) (c : Nat) (hx : a.eval x = .slice A ys.length c) (hC : Kd.C (Kd.int .u8) w A ys.length ys) (b : xs.length + ys.length ≤ 140737488355328)
    (hK : ∀ v' w', w'.ownsRow 0 e 1 v' (xs ++ ys).length (nums .u8 (xs ++ ys)) → w.grownBy w' v.ownBlock → (∀ k, v'.ownBlock = some k → v.ownBlock = some k ∨ w.heap.size ≤ k) → K (a.put o.dst v') w') :
    if Region.wanted o (yielded ops a.tmps) = true then Oper.wp P o a w K Q else E := by
  have hw : Region.wanted o (yielded ops a.tmps) = true := by simp [Region.wanted, hg]
  rw [if_pos hw]
  obtain ⟨v', w', hr, r1, r2, r3⟩ := run_append_bytes (P := P) w t o.type e i z h1 h2 h3 h4 h5 h6 v xs hown A ys c hC b
  unfold Oper.wp execOp
  simp only [hop, resolve, invoke, builtin, Sem.run_bind, Sem.run_pure, Result.andThen_ok, List.map_toArray, List.map_cons, List.map_nil, hs, hx, hr]
  exact hK v' w' r1 r2 r3
end Go.Proofs.Ytajdplhmbigolaa.Octa
