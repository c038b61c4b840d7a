/- FrameLong, walked: of every option that is too long and of fewer than 2^31 bytes. -/
import Derived.Test.YtajdplhmbigolaaFrj
namespace Go.Proofs.Ytajdplhmbigolaa.Fra
open Go.RowKit Go.Proofs.YtajdplhmbigolaaW.PrintWords Go.Proofs.YtajdplhmbigolaaW.PrintLast Go.Proofs.Ytajdplhmbigolaa.Octa Go.Proofs.Ytajdplhmbigolaa.Hand
set_option linter.unusedVariables false

/-- The world of FrameLong's loop: the inbox, and the bytes that are laid down. -/
structure LM (w0 wr : World) (g : Nat) (bv : Value) (Bs : List Int) (v : Value) (xs : List Int) (p : Nat) : Prop where
  ib : Ib wr g v 20 xs p
  vb : ∀ k, v.ownBlock = some k → w0.heap.size ≤ k ∧ bv.ownBlock ≠ some k
  row : wr.ownsRow w0.heap.size 5 1 bv Bs.length (nums .u8 Bs)
  bel : Below w0.heap.size w0 wr
  gn : w0.heap.size ≤ g ∧ bv.ownBlock ≠ some g
theorem LM.step {w0 wr w' : World} {g : Nat} {bv v v' : Value} {Bs xs xs' : List Int} {p p' : Nat} (h : LM w0 wr g bv Bs v xs p) (a : After wr w' g v v' 20 xs' p') : LM w0 w' g bv Bs v' xs' p' := by
  have hf : ∀ k, foot g v k → w0.heap.size ≤ k ∧ bv.ownBlock ≠ some k := fun k hk => by rcases hk with rfl | hk; exact h.gn; exact h.vb k hk
  refine ⟨a.ib, fun k hk => ?_, own_move h.row fun k hk => a.fr.block k (own_lt h.row k hk) (fun e => (hf k e).2 hk), ?_, h.gn⟩
  · rcases a.new k hk with h1 | h1
    · exact h.vb k h1
    · exact ⟨Nat.le_trans h.bel.size h1, fun e => by have := own_lt h.row k e; omega⟩
  · exact h.bel.trans ⟨a.fr.os, a.fr.tape, a.fr.output, a.fr.size, fun k hk => a.fr.block k (Nat.lt_of_lt_of_le hk h.bel.size) (fun e => by have := (hf k e).1; omega)⟩
theorem LM.later {w0 wr w' : World} {g : Nat} {bv v : Value} {Bs xs : List Int} {p : Nat} (h : LM w0 wr g bv Bs v xs p) (hb : Below wr.heap.size wr w') : LM w0 w' g bv Bs v xs p := h.step (After.of_below h.ib hb)
structure LongInv (w0 wr : World) (g : Nat) (bv : Value) (Bs : List Int) (n a : Nat) (told : Bool) : Prop where
  out : ∃ v, LM w0 wr g bv Bs v (if told then (Bs.take a).drop (16 + n) else Bs.take a) (if told then 16 + n - a else 0)
  side : if told then 16 ≤ a else a < 16
  le : a ≤ Bs.length
theorem LM.lenB {w0 wr : World} {g : Nat} {bv v : Value} {Bs xs : List Int} {p : Nat} (h : LM w0 wr g bv Bs v xs p) {A : Option Addr} {c : Nat} (hv : bv = .slice A Bs.length c) : Bs.length ≤ c ∧ c ≤ maxLen ∧ Kd.C (Kd.int .u8) wr A Bs.length Bs := by
  obtain ⟨A', c', he, hl, hC⟩ := C_of_R (R_of_own h.row)
  rw [hv] at he
  injection he with e1 e2 e3
  subst e1; subst e3
  refine ⟨hl, ?_, hC⟩
  rcases h.row.2 with ⟨h0, h1⟩ | ⟨g', cap', cur, hv', _, _, hle, hm, _⟩
  · rw [hv] at h0; injection h0 with _ _ h3; unfold maxLen; omega
  · rw [hv] at hv'; injection hv' with _ _ h3; omega

set_option maxHeartbeats 4000000 in
set_option maxRecDepth 100000 in
theorem FrameLong_walk (cd : Int) (hcd : 0 ≤ cd ∧ cd ≤ 4294967295) (A : Option Addr) (c : Nat) (data : List Int) (sh : Int) (P : Option Addr) (pn pc : Nat) (ps : List Int) (nx : Int) (hnx : 0 ≤ nx ∧ nx ≤ 4294967295) (w : World)
    (hC : Kd.C (Kd.int .u8) w A data.length data) (hc : data.length ≤ c) (hd : data.length ≤ 2147483647) (hP : Kd.C (Kd.int .i64) w P ps.length ps) (hpl : ps.length ≤ 2147483647) :
    Calls Try.prog 4 #[.int .u32 cd, .slice A data.length c, .int .i64 sh, .slice P ps.length pc, .int .u32 nx] w fun e w' => e = .returned (.bool true) ∧ Below w.heap.size w w' := by
  obtain ⟨i0, hi, hz0, hz1, hz2⟩ := info_parts info_u8
  have HC := Lib.hid hC
  have HP := Lib.hid hP
  clear hC hP
  rcases Nat.eq_zero_or_pos data.length with h0 | h0
  · obtain rfl : data = [] := List.eq_nil_of_length_eq_zero h0
    go_enter Try.func4, Try.ntmps4
    go_wp2_with fail
    refine (heads_any w).mono ?_
    rintro e w1 ⟨rfl, hb⟩
    go_wp2_with fail
    go_ret
    exact ⟨rfl, hb⟩
  · have hu : IntKind.u32.wrap (data.length : Int) = (data.length : Int) := by rw [IntKind.wrap_u32]; omega
    obtain ⟨s64, hs⟩ : ∃ s, IntKind.u64.wrap sh = s := ⟨_, rfl⟩
    have hs0 : 0 ≤ s64 := by rw [← hs]; exact wrap_u64_nonneg _
    obtain ⟨most, hm⟩ : ∃ m : Int, s64 % (data.length : Int) = m := ⟨_, rfl⟩
    have hm0 : 0 ≤ most := by rw [← hm]; exact Int.emod_nonneg _ (by omega)
    have hmost1 : most < data.length := by rw [← hm]; exact Int.emod_lt_of_pos _ (by omega)
    have ht : s64.tmod (data.length : Int) = most := by rw [Int.tmod_eq_emod_of_nonneg hs0]; exact hm
    have hmw : wrap64 most = most := by unfold wrap64; omega
    have hmu : IntKind.u32.wrap most = most := by rw [IntKind.wrap_u32]; omega
    go_enter Try.func4, Try.ntmps4
    go_wp2_with fail
    refine (heads_any w).mono ?_
    rintro e w1 ⟨rfl, hb⟩
    have HB1 := Lib.hid hb
    clear hb
    go_wp2_with fail
    have hE : wire_EncodeOption.f cd data.length false data = some (be 5280542401877725268 8 ++ be cd 4 ++ be data.length 4 ++ data, 0) := by
      unfold wire_EncodeOption.f; rw [if_pos ⟨hcd, ⟨by omega, by omega⟩, by omega⟩, if_neg (by decide), if_pos rfl]
    obtain ⟨E, hEE⟩ : ∃ E, E = be 5280542401877725268 8 ++ be cd 4 ++ be data.length 4 ++ data := ⟨_, rfl⟩
    rw [← hEE] at hE
    refine (wire_EncodeOption.calls cd data.length false A c data E 0 w1 (Kd.C_below HC.out HB1.out) hc hE).mono ?_
    rintro e w2 ⟨v2, rfl, hR, hb⟩
    have hO := own_of_R hR
    obtain ⟨A2, c2, rfl⟩ := wr_form hO
    have HO2 := Lib.hid hO
    have HB2 := Lib.hid (HB1.out.trans (hb.mono HB1.out.size))
    have HE := Lib.hid hEE
    have hs1 : w.heap.size ≤ w1.heap.size := HB1.out.size
    have hs2 : w1.heap.size ≤ w2.heap.size := hb.size
    clear hR hb hO hE hEE
    go_wp2_with fail
    refine (New_ok 20 (by omega) (by omega) w2).mono ?_
    rintro e w3 ⟨rfl, rfl⟩
    go_wp2_with fail
    have hF : wire_EncodeFlags.f nx = some (be nx 4) := by unfold wire_EncodeFlags.f; rw [if_pos hnx]
    refine (wire_EncodeFlags.calls nx _ _ hF).mono ?_
    rintro e w4 ⟨v4, rfl, hR, hb⟩
    obtain ⟨A4, c4, rfl⟩ := Kd.R_slice hR
    have hC4 := (Kd.R_reads' hR).2.2
    have hs4 : w2.heap.size + 1 ≤ w4.heap.size := by have := hb.size; simpa using this
    have HC4 := Lib.hid hC4
    have HO4 := Lib.hid (pw_own_below (own_weaken HO2.out (Nat.zero_le _)) (below_then (below_alloc (Below.refl w2.heap.size w2) _) (by simp) hb))
    have HI4 : Hid (Ib w4 w2.heap.size (.slice none 0 0) 20 [] 0) := Lib.hid ((Ib.new w2 20 (by omega) (by omega)).below hb)
    have HB4 := Lib.hid (HB2.out.trans ((below_then (below_alloc (Below.refl w2.heap.size w2) _) (by simp) hb).mono (by omega)))
    have hEl : E.length = 16 + data.length := by rw [HE.out]; simp [be_length]; omega
    have HEl := Lib.hid hEl
    have hg1 : ∀ k, (Value.slice A2 E.length c2).ownBlock = some k → k < w2.heap.size ∧ w1.heap.size ≤ k := fun k hk => ⟨own_lt HO2.out k hk, own_base HO2.out k hk⟩
    have HG1 := Lib.hid hg1
    obtain ⟨Bs, HBs⟩ : ∃ Bs, Hid (E ++ be nx 4 = Bs) := ⟨_, Lib.hid rfl⟩
    clear hR hC4 hb hEl hg1
    go_wp2_with (at_builtin; go_must (refine wpList_append_bytes rfl (.tmp 62) (.tmp 64) 22 rfl 5 i0 (.int .u8 0) Try.underlying22 hi hz0 hz1 hz2 rfl (.slice A2 E.length c2) E rfl HO4.out A4 (be nx 4) 4 c4 (be_length _ _) rfl HC4.out (by have := HEl.out; simp [be_length]; omega) ?_); intro v5 w5 hown hgrow hnew; (rw [HBs.out] at hown); (obtain ⟨A5, c5, rfl⟩ := wr_form hown); have HH := Lib.hid (And.intro hown (And.intro hgrow hnew)); clear hown hgrow hnew)
    obtain ⟨o5, g5, n5⟩ := HH.out
    have hBl : Bs.length = 16 + data.length + 4 := by rw [← HBs.out, List.length_append, HEl.out, be_length]
    have hob : ∀ k, (Value.slice A5 Bs.length c5).ownBlock = some k → w.heap.size ≤ k ∧ k ≠ w2.heap.size := fun k hk => by
      rcases n5 k hk with h1 | h1
      · have := HG1.out k h1; omega
      · omega
    have hinv : LongInv w w5 w2.heap.size (.slice A5 Bs.length c5) Bs data.length 0 false := by
      refine ⟨⟨.slice none 0 0, ⟨?_, fun k hk => by simp [Value.ownBlock] at hk, own_raise (own_weaken o5 (Nat.zero_le _)) (fun k hk => (hob k hk).1), pw_below_grown HB4.out _ (by omega) g5 (fun k hk => by have := HG1.out k hk; omega), by omega, fun h => (hob _ h).2 rfl⟩⟩, by simp, Nat.zero_le _⟩
      have := HI4.out.move (w' := w5) (fun k hk => g5.block k (by rcases hk with rfl | hk; omega; simp [Value.ownBlock] at hk) (fun e => by rcases hk with rfl | hk; exact absurd (HG1.out _ e.symm).1 (by omega); simp [Value.ownBlock] at hk))
      simpa using this
    have HINV := Lib.hid hinv
    have hbl : Bs.length ≤ 2147483667 := by omega
    have HBl := Lib.hid hBl
    clear o5 g5 n5 hob hinv hBl
    go_loopw [17, 18, 19] (fun t a k wr => ∃ (told : Bool) (at_ kk : Nat), t = .bool told ∧ a = .int .i64 at_ ∧ k = .int .i64 kk ∧ kk ≤ at_ ∧ LongInv w wr w2.heap.size (.slice A5 Bs.length c5) Bs data.length at_ told) (fun _ a _ _ => Bs.length - (intOf a).toNat)
    case atStart => exact ⟨false, 0, 0, rfl, rfl, rfl, Nat.le_refl _, HINV.out⟩
    case round =>
      obtain ⟨told, at_, kk, rfl, rfl, rfl, hkk, hinv⟩ := hrel
      have hle := hinv.le
      by_cases hlt : at_ < Bs.length
      · have HI := Lib.hid hinv
        clear hinv HINV
        go_upto_if 74 with (fail)
        go_cut [20] (fun m wx => ∃ q : Nat, 1 ≤ q ∧ q ≤ 40 ∧ m = .int .i64 q ∧ wx = wr)
        case first =>
          rcases Nat.eq_zero_or_pos ps.length with hp0 | hp0
          · have hp0' : ¬ 0 < ps.length := by omega
            clear hp0
            go_wp2_with fail
            go_meet
            case rel => exact ⟨1, by omega, by omega, rfl, rfl⟩
          · obtain ⟨v0, hLM⟩ := HI.out.out
            obtain ⟨ad, rfl, hcs⟩ := (Kd.C_below HP.out hLM.bel).2.2 hp0
            obtain ⟨ix, hixe⟩ : ∃ ix, kk % ps.length = ix := ⟨_, rfl⟩
            have hix : ix < ps.length := by rw [← hixe]; exact Nat.mod_lt _ hp0
            obtain ⟨p0, hp⟩ : ∃ p0, ps[ix]? = some p0 := ⟨_, List.getElem?_eq_getElem hix⟩
            have hcell : wr.cell? (ad.add ix) = some (.int .i64 p0) := by
              obtain ⟨cs, hs, hr, hcc⟩ := hcs _ p0 hp
              have hr' : cs = [.int .i64 p0] := hr
              subst hr'
              have := hcc 0 (.int .i64 p0) (by simp)
              simpa [Kd.int, Kd.scalar] using this
            have hmod : (kk : Int) % (ps.length : Int) = (ix : Int) := by rw [← hixe]; simp
            have hmt : (kk : Int).tmod (ps.length : Int) = (ix : Int) := by rw [Int.tmod_eq_emod_of_nonneg (by omega)]; exact hmod
            obtain ⟨pu, hpu⟩ : ∃ s, IntKind.u64.wrap p0 = s := ⟨_, rfl⟩
            have hpu0 : 0 ≤ pu := by rw [← hpu]; exact wrap_u64_nonneg _
            obtain ⟨r, hr⟩ : ∃ m : Int, pu % 40 = m := ⟨_, rfl⟩
            have hr0 : 0 ≤ r := by rw [← hr]; exact Int.emod_nonneg _ (by omega)
            have hr1 : r < 40 := by rw [← hr]; exact Int.emod_lt_of_pos _ (by omega)
            have hrt : pu.tmod 40 = r := by rw [Int.tmod_eq_emod_of_nonneg hpu0]; exact hr
            clear hcs hLM hp hixe
            go_wp2_with fail
            go_meet
            case rel => exact ⟨(1 + r).toNat, by omega, by omega, by congr 1; omega, rfl⟩
        case rest =>
          obtain ⟨q, hq1, hq2, rfl, rfl⟩ := hcut
          obtain ⟨m, hm1, hm2, hm⟩ : ∃ m : Nat, 1 ≤ m ∧ at_ + m ≤ Bs.length ∧ ((q ≤ Bs.length - at_ ∧ m = q) ∨ (Bs.length - at_ < q ∧ m = Bs.length - at_)) := by
            rcases Nat.lt_or_ge (Bs.length - at_) q with h | h
            · exact ⟨_, by omega, by omega, .inr ⟨h, rfl⟩⟩
            · exact ⟨_, by omega, by omega, .inl ⟨h, rfl⟩⟩
          have hmin : (if (Bs.length : Int) - (at_ : Int) < (q : Int) then (Bs.length : Int) - (at_ : Int) else (q : Int)) = (m : Int) := by
            rcases hm with ⟨h, rfl⟩ | ⟨h, rfl⟩
            · rw [if_neg (by omega)]
            · rw [if_pos (by omega)]; omega
          have HMIN := Lib.hid hmin
          clear hmin hm
          go_upto_region 20 with (fail)
          go_cut [20] (fun a wx => a = .int .i64 m ∧ wx = wc)
          case first =>
            go_wp2_with fail
            all_goals
              have := HMIN.out
              go_meet
              case rel => exact ⟨by congr 1; first | (rw [if_pos (by omega)] at this; exact this) | (rw [if_neg (by omega)] at this; exact this), rfl⟩
          case rest =>
            obtain ⟨rfl, rfl⟩ := hcut
            obtain ⟨hv0, hLM⟩ := HI.out.out
            obtain ⟨hl5, hm5, hC5⟩ := hLM.lenB rfl
            obtain ⟨A', hrun, hCC, hcc⟩ := C_mid A5 c5 Bs at_ m hm2 hl5
            obtain ⟨ys, HYS⟩ : ∃ ys, Hid (ys = (Bs.take (at_ + m)).drop at_) := ⟨_, Lib.hid rfl⟩
            rw [← HYS.out] at hrun hCC hcc
            have hyl : ys.length = m := by rw [HYS.out]; simp; omega
            have HYL := Lib.hid hyl
            have hCY := hCC _ hC5
            have HCY := Lib.hid hCY
            have HLM := Lib.hid hLM
            have hside := HI.out.side
            have hmaxc : c5 - at_ ≤ maxLen := by omega
            clear hCY hyl hLM hC5 hCC hm5
            have hMsg : Bs = msg cd data nx := by rw [← HBs.out, HE.out]; rfl
            have HMsg := Lib.hid hMsg
            clear hMsg
            cases told
            · simp only [Bool.false_eq_true, if_false] at hside
              obtain ⟨n, hn⟩ : ∃ n, n = min m (20 - at_) := ⟨_, rfl⟩
              have hn1 : 1 ≤ n := by omega
              have hn2 : n ≤ m := by omega
              have hn3 : at_ + n ≤ 20 := by omega
              have HN := Lib.hid hn
              clear hn
              go_wp2_with fail
              refine (Feed_at w2.heap.size hv0 20 (Bs.take at_) 0 A' (c5 - at_) ys 0 n (by simp) (by have := HN.out; have := HYL.out; simp; omega) _ HLM.out.ib HCY.out hcc hmaxc).mono ?_
              rintro e w6 ⟨v6, rfl, I6, F6, N6⟩
              have hxs : Bs.take at_ ++ (ys.take (0 + n)).drop 0 = Bs.take (at_ + n) := by
                rw [HYS.out, Nat.zero_add, List.drop_zero, List.drop_take, List.take_take, Nat.min_eq_left (by omega), ← List.take_add]
              have h6 : LM w w6 w2.heap.size (.slice A5 Bs.length c5) Bs v6 (Bs.take (at_ + n)) 0 := by
                have := HLM.out.step ⟨I6, F6, N6⟩
                rw [hxs] at this
                exact this
              have hxl : (Bs.take (at_ + n)).length = at_ + n := by simp; omega
              have H6 := Lib.hid h6
              have HXL := Lib.hid hxl
              clear I6 F6 N6 hxs h6 hxl
              go_wp2_with fail
              have hHeld := Held_calls w2.heap.size v6 20 (Bs.take (at_ + n)) 0 w6 H6.out.ib
              rw [HXL.out] at hHeld
              refine hHeld.mono ?_
              clear hHeld
              rintro e w7 ⟨rfl, rfl⟩
              rcases Nat.lt_or_ge (at_ + n) 16 with h16 | h16
              · go_wp2_with fail
                refine (Option_plain w2.heap.size v6 20 (Bs.take (at_ + n)) most w6 H6.out.ib 0 0 false [] 16 10 (by rw [HMsg.out]; exact msg_short cd data nx most _ h16) (by decide) (fun h => absurd h (by decide))).mono ?_
                rintro e w7 ⟨v7, u7, rfl, R7, A7⟩
                obtain ⟨a7, c7, rfl⟩ := Kd.R_slice R7
                have H7 : Hid (LM w w7 w2.heap.size (.slice A5 Bs.length c5) Bs v7 (Bs.take (at_ + n)) 0) := Lib.hid (H6.out.step A7)
                have k10 := code_10
                have hz : ((n : Int) == 0) = false := by simp; omega
                have hg : decide (16 ≤ (at_ : Int) + (n : Int)) = false := by simp; omega
                clear R7 A7
                go_wp2_with fail
                go_roundw
                case rel => exact ⟨false, at_ + n, kk + 1, rfl, by go_num, by go_num, by omega, ⟨⟨v7, H7.out.later (below_alloc (Below.refl _ _) _)⟩, by simpa using h16, by omega⟩⟩
                case measure => simp [intOf]; omega
              · go_wp2_with fail
                have hlong := Option_long w2.heap.size v6 20 (Bs.take (at_ + n)) most w6 H6.out.ib cd data.length true [] 16 (by omega) (by have := HXL.out; omega) (by rw [HMsg.out]; exact msg_long cd data nx most _ h16 hn3 hcd hd hmost1)
                rw [HXL.out] at hlong
                refine hlong.mono ?_
                clear hlong
                rintro e w7 ⟨v7, u7, rfl, R7, A7⟩
                obtain ⟨a7, c7, rfl⟩ := Kd.R_slice R7
                have hx7 : (Bs.take (at_ + n)).drop (16 + min (at_ + n - 16) data.length) = (Bs.take (at_ + n)).drop (16 + data.length) := by
                  rcases Nat.le_total (at_ + n - 16) data.length with h | h
                  · rw [Nat.min_eq_left h, List.drop_of_length_le (by have := HXL.out; omega), List.drop_of_length_le (by have := HXL.out; omega)]
                  · rw [Nat.min_eq_right h]
                have h7 : LM w w7 w2.heap.size (.slice A5 Bs.length c5) Bs v7 ((Bs.take (at_ + n)).drop (16 + data.length)) (16 + data.length - (at_ + n)) := by
                  have := H6.out.step A7
                  rw [hx7] at this
                  rwa [show data.length - min (at_ + n - 16) data.length = 16 + data.length - (at_ + n) by omega] at this
                have H7 := Lib.hid h7
                clear R7 A7 hx7 h7
                go_wp2_with fail
                go_roundw
                case rel => exact ⟨true, at_ + n, kk + 1, rfl, by go_num, by go_num, by omega, ⟨⟨v7, H7.out.later (below_alloc (Below.refl _ _) _)⟩, by simpa using h16, by omega⟩⟩
                case measure => simp [intOf]; omega
            · simp only [if_true] at hside
              have hon := feed_on Bs data.length at_ m hside HBl.out hm2
              rw [← HYS.out] at hon
              obtain ⟨-, hon2, hon3, hon4⟩ := hon
              obtain ⟨over, hov⟩ : ∃ o, o = min (16 + data.length - at_) ys.length := ⟨_, rfl⟩
              obtain ⟨n, hn⟩ : ∃ n, n = min (ys.length - over) (20 - ((Bs.take at_).drop (16 + data.length)).length) := ⟨_, rfl⟩
              rw [← hov, ← hn] at hon2 hon3
              rw [← hov] at hon4
              have HOV := Lib.hid hov
              have HN := Lib.hid hn
              have HON2 := Lib.hid hon2
              have HON3 := Lib.hid hon3
              have HON4 := Lib.hid hon4
              clear hov hn hon2 hon3 hon4
              go_wp2_with fail
              refine (Feed_at w2.heap.size hv0 20 ((Bs.take at_).drop (16 + data.length)) (16 + data.length - at_) A' (c5 - at_) ys over n HOV.out HN.out _ HLM.out.ib HCY.out hcc hmaxc).mono ?_
              rintro e w6 ⟨v6, he, I6, F6, N6⟩
              rw [HON2.out] at he
              subst he
              have h6 : LM w w6 w2.heap.size (.slice A5 Bs.length c5) Bs v6 ((Bs.take (at_ + m)).drop (16 + data.length)) (16 + data.length - (at_ + m)) := by
                have := HLM.out.step ⟨I6, F6, N6⟩
                rwa [HON3.out, HON4.out] at this
              have hxl : ((Bs.take (at_ + m)).drop (16 + data.length)).length ≤ 4 := by have := HBl.out; simp; omega
              have H6 := Lib.hid h6
              clear I6 F6 N6 h6
              obtain ⟨xl, hxe⟩ : ∃ xl, ((Bs.take (at_ + m)).drop (16 + data.length)).length = xl := ⟨_, rfl⟩
              have HXE := Lib.hid hxe
              rw [hxe] at hxl
              clear hxe
              go_wp2_with fail
              have hHeld := Held_calls w2.heap.size v6 20 _ _ w6 H6.out.ib
              rw [HXE.out] at hHeld
              refine hHeld.mono ?_
              clear hHeld
              rintro e w7 ⟨rfl, rfl⟩
              go_wp2_with fail
              go_roundw
              case rel => exact ⟨true, at_ + m, kk + 1, rfl, by go_num, by go_num, by omega, ⟨⟨v6, H6.out⟩, by simp; omega, by omega⟩⟩
              case measure => simp [intOf]; omega
      · obtain rfl : at_ = Bs.length := by omega
        have hBl := HBl.out
        obtain ⟨⟨v8, hLM⟩, hside, _⟩ := hinv
        cases told
        · simp only [Bool.false_eq_true, if_false] at hside; omega
        · simp only [if_true] at hLM
          have hx : (Bs.take Bs.length).drop (16 + data.length) = be nx 4 := by
            rw [List.take_length, ← HBs.out, ← HEl.out, List.drop_left]
          rw [hx, show 16 + data.length - Bs.length = 0 by omega] at hLM
          have hv : vat (be nx 4) 0 4 % 4294967296 = nx := by
            have := vat_be nx [] [] 0 4 rfl (by omega) hnx.1 (pow4 hnx.2)
            simp only [List.nil_append, List.append_nil] at this
            rw [this]; exact Int.emod_eq_of_lt hnx.1 (by omega)
          have hF8 := Flags_calls w2.heap.size v8 20 (be nx 4) wr hLM.ib
          rw [if_neg (by simp [be_length]), if_neg (by simp [be_length]), if_neg (by simp [be_length]), hv, List.drop_of_length_le (by simp [be_length])] at hF8
          have HF8 := Lib.hid hF8
          have HLM := Lib.hid hLM
          clear hF8 hLM hx hv hside hBl HINV
          go_wp2_with fail
          refine HF8.out.mono ?_
          rintro e w9 ⟨v9, rfl, A9⟩
          have H9 := Lib.hid (HLM.out.step A9)
          clear A9
          go_wp2_with fail
          refine (Held_calls w2.heap.size v9 20 [] 0 w9 H9.out.ib).mono ?_
          rintro e w10 ⟨rfl, rfl⟩
          go_wp2_with fail
          go_ret
          exact ⟨rfl, H9.out.bel⟩

/-- As the row's opening tells its arguments. -/
theorem FrameLong_row (cd : Int) (hcd : (Lit.int .u32 cd).wf = true) (a : Option Addr) (len cap : Nat) (z : List Int) (sh : Int) (a3 : Option Addr) (len3 cap3 : Nat) (z3 : List Int) (nx : Int) (hnx : (Lit.int .u32 nx).wf = true) (w : World)
    (hw : (a = none ∧ len = 0 ∧ cap = 0 ∧ z = []) ∨ ∃ x, a = some x ∧ len ≤ cap ∧ cap ≤ maxLen ∧ z.length = cap ∧ (∀ i, i < z.length → w.cell? (x.add i) = some (.int .u8 (z.getD i 0))) ∧ ∀ n ∈ z, (Lit.int .u8 n).wf = true) (hy : len ≤ 1048576)
    (hw3 : (a3 = none ∧ len3 = 0 ∧ cap3 = 0 ∧ z3 = []) ∨ ∃ x, a3 = some x ∧ len3 ≤ cap3 ∧ cap3 ≤ maxLen ∧ z3.length = cap3 ∧ (∀ i, i < z3.length → w.cell? (x.add i) = some (.int .i64 (z3.getD i 0))) ∧ ∀ n ∈ z3, (Lit.int .i64 n).wf = true) (hy3 : len3 ≤ 1048576) :
    Calls Try.prog 4 #[.int .u32 cd, .slice a len cap, .int .i64 sh, .slice a3 len3 cap3, .int .u32 nx] w fun e w' => e = .returned (.bool true) ∧ Below w.heap.size w w' := by
  obtain ⟨l0, rfl, hr0, hm0, hw0, hc0⟩ := ReadsInt.ofRowC hw
  obtain ⟨l3, rfl, hr3, hm3, hw3, hc3⟩ := ReadsInt.ofRowC hw3
  have h1 : (decide ((0 : Int) ≤ cd) && decide (cd ≤ 4294967295)) = true := hcd
  have h2 : (decide ((0 : Int) ≤ nx) && decide (nx ≤ 4294967295)) = true := hnx
  exact FrameLong_walk cd (by simpa using h1) a cap l0 sh a3 0 cap3 l3 nx (by simpa using h2) w (Kd.C_of_reads (d := (0 : Int)) (h1 := fun _ => rfl) hr0) hc0 (by omega) (Kd.C_of_reads (d := (0 : Int)) (h1 := fun _ => rfl) hr3) (by omega)
end Go.Proofs.Ytajdplhmbigolaa.Fra
