/- kinds: the plain laws, and what a map of kinds is in memory. -/
import Derived.Test.YtkfillfkbhbbjaaGreatDoorNamC
import Derived.Maps.RangeRun
import Derived.Deep.Light
import Derived.Deep.CutBlock
import Derived.Deep.RegionHeld3
set_option maxRecDepth 100000
set_option maxHeartbeats 4000000
set_option linter.unusedSimpArgs false
set_option linter.unusedVariables false
namespace Go.Proofs.YtkfillfkbhbbjaaGreatDoor
open Go.RowKit

theorem leave_any {K : CKey} (hK : CFix K) {T : Nat → Prop} {ua : Option Addr} {uc : Nat} {st : NS} {w : World} (h : CK K T ua uc st w) (hl : -1000000 < st.loops) :
  Calls Tryz.prog 78 #[.pointer (some ⟨K.c, 0, none⟩)] w fun r w' => ∃ T' ua' uc', r = .returned (.tuple #[]) ∧ CK K T' ua' uc' { st with loops := st.loops - 1 } w' ∧ CStep K T T' w w' := by
 have hlob : -1000000 ≤ st.loops - 1 ∧ st.loops - 1 ≤ 1000000 := by have := h.loops; omega
 have hb2 : st.loops ≤ 1000000 := h.loops.2
 have HC0 := zh h; have HS0 := zh (CStep.refl K T w)
 clear h
 go_enter Tryz.func78, Tryz.ntmps78
 obtain ⟨l_c, xc_0, xc_1, xc_2, xc_3, xc_4, xc_5, xc_6, xc_7, xc_8, xc_9, xc_10, yc_0, yc_1, yc_2, yc_3, yc_4, yc_5, yc_6, yc_7, yc_8, yc_9, yc_10⟩ := cf11 HC0.out.row
 obtain ⟨-, l_mf, l_ms, l_mn⟩ := HC0.out.lt
 go_wp2_with fail
 refine end_at (v := .tuple #[]) (fun W => Keeps [K.c] w W ∧ W.heap[K.c]? = some (.cells #[.slice K.ra K.g.rules.length K.rc, .slice K.fa K.g.funcs.length K.fc, .map (some K.mf), .int .i64 st.fn, .int .i64 st.rule, .int .i64 (st.loops - 1), .slice ua st.uses.length uc, .map (some K.ms), .map (some K.mn), .complex .f64 st.re st.im, .int .i64 st.e] 70 (0, 0))) ⟨(by with_reducible repeat (first | exact k0 _ _ | refine kA ?_ _ | refine kD ?_ | refine kS ?_ (by simp) | refine kM ?_ (by simp))), (by simp only [hS, hA, hD, hM, reduceIte, Option.map_some, Obj.put, HC0.out.row, Nat.ne_of_lt l_c, Nat.ne_of_gt l_c] <;> rfl)⟩ (fun w1 hW => ?_) rfl (fun w1 hW => ?_)
 ·obtain ⟨Kw1, cw1_c⟩ := hW
  simp [results, Tryz.results78, go_sem]
 ·obtain ⟨Kw1, cw1_c⟩ := hW
  have HCw1 : Hid (CK K T ua uc ({ st with loops := st.loops - 1 }) w1) := zh (HC0.out.upd hK Kw1 cw1_c (by simp) (by simp) (by simp) (by simp) (by simp) rfl rfl rfl HC0.out.fn hlob)
  have HSw1 := zh (HS0.out.loc Kw1 (by simp []))
  clear Kw1 cw1_c l_c xc_0 xc_1 xc_2 xc_3 xc_4 xc_5 xc_6 xc_7 xc_8 xc_9 xc_10 yc_0 yc_1 yc_2 yc_3 yc_4 yc_5 yc_6 yc_7 yc_8 yc_9 yc_10 l_mf l_ms l_mn HC0 HS0
  exact ⟨_, _, _, rfl, HCw1.out, HSw1.out⟩

def RootI (K : CKey) (T : Nat → Prop) (ua : Option Addr) (uc : Nat) (st : NS) (r : Thing) (w : World) (B R : Nat) (g : Nat) (W : World) : Prop :=
 ∃ t, rootF st.same g t = some r ∧ CK K T ua uc st W ∧ Keeps [] w W ∧ W.heap[B]? = some (.cells #[.int .i64 t.1, .string t.2] 101 (0, 0)) ∧ W.heap[R]? = some (.cells #[.int .i64 0, .string ⟨#[]⟩] 101 (0, 0))

theorem root_any {K : CKey} {T : Nat → Prop} {ua : Option Addr} {uc : Nat} {st : NS} {w : World} (h : CK K T ua uc st w) {t r : Thing} {fu : Nat} (hx : rootF st.same fu t = some r) :
  Calls Tryz.prog 45 #[.pointer (some ⟨K.c, 0, none⟩), .agg #[.int .i64 t.1, .string t.2]] w fun q w' => q = .returned (.agg #[.int .i64 r.1, .string r.2]) ∧ Keeps [] w w' := by
 have HC0 := zh h; have HS0 := zh (CStep.refl K T w); have HK0 := zh (Keeps.refl [] w); have HX := zh hx
 clear h hx
 go_enter Tryz.func45, Tryz.ntmps45
 obtain ⟨l_c, l_mf, l_ms, l_mn⟩ := HC0.out.lt
 have l_mf_1 : K.mf < w.heap.size + 1 := Nat.lt_add_right 1 l_mf
 have l_ms_1 : K.ms < w.heap.size + 1 := Nat.lt_add_right 1 l_ms
 have l_mn_1 : K.mn < w.heap.size + 1 := Nat.lt_add_right 1 l_mn
 have l_c_1 : K.c < w.heap.size + 1 := Nat.lt_add_right 1 l_c
 go_wp2_with fail
 refine wp_at (fun W => Keeps [] w W ∧ W.heap[w.heap.size]? = some (.cells #[.int .i64 t.1, .string t.2] 101 (0, 0)) ∧ W.heap[w.heap.size + 1]? = some (.cells #[.int .i64 0, .string ⟨#[]⟩] 101 (0, 0))) ⟨(by with_reducible repeat (first | exact k0 _ _ | refine kA ?_ _ | refine kD ?_ | refine kS ?_ (by simp) | refine kM ?_ (by simp))), (by simp only [hS, hA, hD, hM, World.size_alloc, World.size_setCell, World.size_drew, size_mset, Nat.add_right_cancel_iff, Nat.left_eq_add, Nat.add_eq_left, Nat.reduceEqDiff, Nat.add_assoc, Nat.reduceAdd, Nat.one_ne_zero, Nat.zero_ne_one, reduceIte, Option.map_some, Obj.put] <;> rfl), (by simp only [hS, hA, hD, hM, World.size_alloc, World.size_setCell, World.size_drew, size_mset, Nat.add_right_cancel_iff, Nat.left_eq_add, Nat.add_eq_left, Nat.reduceEqDiff, Nat.add_assoc, Nat.reduceAdd, Nat.one_ne_zero, Nat.zero_ne_one, reduceIte, Option.map_some, Obj.put] <;> rfl)⟩ ?_
 rintro w1 ⟨Kw1, cw1_B, cw1_R⟩
 have ⟨n_c_B, n_B_c⟩ := zne l_c
 have ⟨n_mf_B, n_B_mf⟩ := zne l_mf
 have ⟨n_ms_B, n_B_ms⟩ := zne l_ms
 have ⟨n_mn_B, n_B_mn⟩ := zne l_mn
 have o_B : w.heap.size ≤ w.heap.size := Nat.le_refl _
 have off_B : Off K T (w.heap.size) := off_new HC0.out (Nat.le_refl _)
 have o0_B : K.w0.heap.size ≤ w.heap.size := Nat.le_trans HC0.out.keep.size (Nat.le_refl _)
 have ⟨n_c_R, n_R_c⟩ := zne (Nat.lt_add_right 1 l_c)
 have ⟨n_mf_R, n_R_mf⟩ := zne (Nat.lt_add_right 1 l_mf)
 have ⟨n_ms_R, n_R_ms⟩ := zne (Nat.lt_add_right 1 l_ms)
 have ⟨n_mn_R, n_R_mn⟩ := zne (Nat.lt_add_right 1 l_mn)
 have n_B_R : w.heap.size ≠ w.heap.size + 1 := by simp
 have n_R_B : w.heap.size + 1 ≠ w.heap.size := by simp
 have o_R : w.heap.size ≤ w.heap.size + 1 := Nat.le_trans (Nat.le_refl _) (Nat.le_add_right _ 1)
 have off_R : Off K T (w.heap.size + 1) := off_new HC0.out (Nat.le_add_right _ 1)
 have o0_R : K.w0.heap.size ≤ w.heap.size + 1 := Nat.le_trans HC0.out.keep.size (Nat.le_add_right _ 1)
 have HCw1 := zh (HC0.out.kp0 Kw1)
 have HSw1 := zh (HS0.out.loc Kw1 (by simp))
 have HKw1 := zh (HK0.out.trans Kw1 (by simp))
 have Rw1_B := zh cw1_B
 have Rw1_R := zh cw1_R
 clear Kw1 cw1_B cw1_R l_c l_c_1 l_mf_1 l_ms_1 l_mn_1 l_mf l_ms l_mn HC0 HS0 HK0
 go_loopg [] fu (fun g wr => RootI K T ua uc st r w (w.heap.size) (w.heap.size + 1) g wr)
 case atStart => exact ⟨t, HX.out, HCw1.out, HKw1.out, Rw1_B.out, Rw1_R.out⟩
 clear HX
 case round =>
  obtain ⟨t1, hG, hc, hk, hB, hR⟩ := hrel
  have HCr := zh hc; have HSr := zh ((CStep.refl K T w).loc hk (by simp)); have HKr := zh hk; have RB := zh hB; have RR := zh hR
  clear hc hk hB hR
  cases gk with
  | zero => simp [rootF] at hG
  | succ f =>
   rw [rootF] at hG
   cases ha : alook t1 st.same with
   | none =>
    rw [ha] at hG
    simp only [Option.some.injEq] at hG
    subst hG
    have HA : Hid (alook (t1.1, t1.2) st.same = none) := zh ha
    clear ha
    obtain ⟨l_c, xc_0, xc_1, xc_2, xc_3, xc_4, xc_5, xc_6, xc_7, xc_8, xc_9, xc_10, yc_0, yc_1, yc_2, yc_3, yc_4, yc_5, yc_6, yc_7, yc_8, yc_9, yc_10⟩ := cf11 HCr.out.row
    obtain ⟨-, l_mf, l_ms, l_mn⟩ := HCr.out.lt
    obtain ⟨l_B, xB_0, xB_1, yB_0, yB_1⟩ := cf2 RB.out
    have l_R := h_lt RR.out
    go_upto_region 1 with fail
    have hlk1 := (HCr.out.kp0 (Keeps.drew [] wr)).look_none HA.out
    have hlk2 := (HCr.out.kp0 (kD (kA (k0 [] wr) (.cells #[.int .i64 0, .string ⟨#[]⟩] 101)))).look_none HA.out
    have hlk3 := (HCr.out.kp0 (kA (kD (k0 [] wr)) (.cells #[.int .i64 0, .string ⟨#[]⟩] 101))).look_none HA.out
    go_cut [5, 6] (fun s5 s6 W => s5 = .pointer (some ⟨wr.heap.size, 0, none⟩) ∧ s6 = .bool false ∧ Keeps [] wr W ∧ W.heap[wr.heap.size]? = some (.cells #[.int .i64 0, .string ⟨#[]⟩] 101 (0, 0)))
    case first =>
     go_region
     all_goals
      go_wp2_with fail
      go_meet
      case rel => exact ⟨rfl, rfl, (by with_reducible repeat (first | exact k0 _ _ | refine kA ?_ _ | refine kD ?_ | refine kS ?_ (by simp) | refine kM ?_ (by simp))), (by simp only [hS, hA, hD, hM, World.size_setCell, World.size_drew, reduceIte, Option.map_some, Obj.put] <;> rfl)⟩
    case rest =>
     obtain ⟨rfl, rfl, Kw51, cc_U⟩ := hcut
     generalize wc = w51 at *
     have cw51_U := cc_U
     clear cc_U
     have ⟨n_c_U, n_U_c⟩ := zne l_c
     have ⟨n_mf_U, n_U_mf⟩ := zne l_mf
     have ⟨n_ms_U, n_U_ms⟩ := zne l_ms
     have ⟨n_mn_U, n_U_mn⟩ := zne l_mn
     have ⟨n_B_U, n_U_B⟩ := zne l_B
     have ⟨n_R_U, n_U_R⟩ := zne l_R
     have o_U : w.heap.size ≤ wr.heap.size := HSr.out.size
     have off_U : Off K T (wr.heap.size) := off_new HCr.out (Nat.le_refl _)
     have o0_U : K.w0.heap.size ≤ wr.heap.size := Nat.le_trans HCr.out.keep.size (Nat.le_refl _)
     have Rw51_B := zh (Kw51.at RB.out (by simp))
     have Rw51_R := zh (Kw51.at RR.out (by simp))
     have HCw51 := zh (HCr.out.kp0 Kw51)
     have HSw51 := zh (HSr.out.loc Kw51 (by simp))
     have HKw51 := zh (HKr.out.trans Kw51 (by simp))
     have Rw51_U := zh cw51_U
     clear Kw51 cw51_U l_c xc_0 xc_1 xc_2 xc_3 xc_4 xc_5 xc_6 xc_7 xc_8 xc_9 xc_10 yc_0 yc_1 yc_2 yc_3 yc_4 yc_5 yc_6 yc_7 yc_8 yc_9 yc_10 l_B xB_0 xB_1 yB_0 yB_1 l_R l_mf l_ms l_mn RB RR HCr HSr HKr
     obtain ⟨l_c, l_mf, l_ms, l_mn⟩ := HCw51.out.lt
     obtain ⟨l_B, xB_0, xB_1, yB_0, yB_1⟩ := cf2 Rw51_B.out
     obtain ⟨l_R, xR_0, xR_1, yR_0, yR_1⟩ := cf2 Rw51_R.out
     have l_U := h_lt Rw51_U.out
     go_wp2_with fail
     refine ret_at (v := .agg #[.int .i64 t1.1, .string t1.2]) (fun W => Keeps [w.heap.size + 1] w51 W ∧ W.heap[w.heap.size + 1]? = some (.cells #[.int .i64 t1.1, .string t1.2] 101 (0, 0))) ⟨(by with_reducible repeat (first | exact k0 _ _ | refine kA ?_ _ | refine kD ?_ | refine kS ?_ (by simp) | refine kM ?_ (by simp))), (by simp only [hS, hA, hD, hM, reduceIte, Option.map_some, Obj.put, Rw51_R.out, Nat.ne_of_lt l_R, Nat.ne_of_gt l_R] <;> rfl)⟩ (fun w52 hW => ?_) rfl (fun w52 hW => ?_)
     ·obtain ⟨Kw52, cw52_R⟩ := hW
      have q0 := cell_of_heap cw52_R 0
      have q1 := cell_of_heap cw52_R 1
      simp at q0 q1
      simp [results, Tryz.results45, go_sem, q0, q1]
     ·obtain ⟨Kw52, cw52_R⟩ := hW
      have Rw52_B := zh (Kw52.at Rw51_B.out (by simp [n_B_R]))
      have Rw52_U := zh (Kw52.at Rw51_U.out (by simp [n_U_R]))
      have HCw52 := zh (HCw51.out.kp Kw52 (by simp [o0_R]) (by simp [n_c_R]) (by simp [n_mf_R]) (by simp [n_ms_R]) (by simp [n_mn_R]) (by simp [(off_R).2.2.2]))
      have HSw52 := zh (HSw51.out.loc Kw52 (by simp [o_R]))
      have HKw52 := zh (HKw51.out.trans Kw52 (by simp [o_R]))
      have Rw52_R := zh cw52_R
      clear Kw52 cw52_R l_c l_B xB_0 xB_1 yB_0 yB_1 l_R xR_0 xR_1 yR_0 yR_1 l_U l_mf l_ms l_mn Rw51_B Rw51_U HCw51 HSw51 HKw51 Rw51_R
      exact ⟨rfl, HKw52.out⟩
   | some u =>
    rw [ha] at hG
    simp only at hG
    have HA : Hid (alook (t1.1, t1.2) st.same = some (u.1, u.2)) := zh ha
    have HF := zh hG
    clear ha hG
    obtain ⟨l_c, xc_0, xc_1, xc_2, xc_3, xc_4, xc_5, xc_6, xc_7, xc_8, xc_9, xc_10, yc_0, yc_1, yc_2, yc_3, yc_4, yc_5, yc_6, yc_7, yc_8, yc_9, yc_10⟩ := cf11 HCr.out.row
    obtain ⟨-, l_mf, l_ms, l_mn⟩ := HCr.out.lt
    obtain ⟨l_B, xB_0, xB_1, yB_0, yB_1⟩ := cf2 RB.out
    have l_R := h_lt RR.out
    go_upto_region 1 with fail
    have hlk1 := (HCr.out.kp0 (Keeps.drew [] wr)).look_some HA.out
    have hlk2 := (HCr.out.kp0 (kD (kA (k0 [] wr) (.cells #[.int .i64 0, .string ⟨#[]⟩] 101)))).look_some HA.out
    have hlk3 := (HCr.out.kp0 (kA (kD (k0 [] wr)) (.cells #[.int .i64 0, .string ⟨#[]⟩] 101))).look_some HA.out
    go_cut [5, 6] (fun s5 s6 W => s5 = .pointer (some ⟨wr.heap.size, 0, none⟩) ∧ s6 = .bool true ∧ Keeps [] wr W ∧ W.heap[wr.heap.size]? = some (.cells #[.int .i64 u.1, .string u.2] 101 (0, 0)))
    case first =>
     go_region
     all_goals
      go_wp2_with fail
      go_meet
      case rel => exact ⟨rfl, rfl, (by with_reducible repeat (first | exact k0 _ _ | refine kA ?_ _ | refine kD ?_ | refine kS ?_ (by simp) | refine kM ?_ (by simp))), (by simp only [hS, hA, hD, hM, World.size_setCell, World.size_drew, reduceIte, Option.map_some, Obj.put] <;> rfl)⟩
    case rest =>
     obtain ⟨rfl, rfl, Kw51, cc_U⟩ := hcut
     generalize wc = w51 at *
     have cw51_U := cc_U
     clear cc_U
     have ⟨n_c_U, n_U_c⟩ := zne l_c
     have ⟨n_mf_U, n_U_mf⟩ := zne l_mf
     have ⟨n_ms_U, n_U_ms⟩ := zne l_ms
     have ⟨n_mn_U, n_U_mn⟩ := zne l_mn
     have ⟨n_B_U, n_U_B⟩ := zne l_B
     have ⟨n_R_U, n_U_R⟩ := zne l_R
     have o_U : w.heap.size ≤ wr.heap.size := HSr.out.size
     have off_U : Off K T (wr.heap.size) := off_new HCr.out (Nat.le_refl _)
     have o0_U : K.w0.heap.size ≤ wr.heap.size := Nat.le_trans HCr.out.keep.size (Nat.le_refl _)
     have Rw51_B := zh (Kw51.at RB.out (by simp))
     have Rw51_R := zh (Kw51.at RR.out (by simp))
     have HCw51 := zh (HCr.out.kp0 Kw51)
     have HSw51 := zh (HSr.out.loc Kw51 (by simp))
     have HKw51 := zh (HKr.out.trans Kw51 (by simp))
     have Rw51_U := zh cw51_U
     clear Kw51 cw51_U l_c xc_0 xc_1 xc_2 xc_3 xc_4 xc_5 xc_6 xc_7 xc_8 xc_9 xc_10 yc_0 yc_1 yc_2 yc_3 yc_4 yc_5 yc_6 yc_7 yc_8 yc_9 yc_10 l_B xB_0 xB_1 yB_0 yB_1 l_R l_mf l_ms l_mn RB RR HCr HSr HKr
     obtain ⟨l_c, l_mf, l_ms, l_mn⟩ := HCw51.out.lt
     obtain ⟨l_B, xB_0, xB_1, yB_0, yB_1⟩ := cf2 Rw51_B.out
     have l_R := h_lt Rw51_R.out
     obtain ⟨l_U, xU_0, xU_1, yU_0, yU_1⟩ := cf2 Rw51_U.out
     go_wp2_with fail
     go_roundg f
     case measure => omega
     case rel =>
      refine inv_at (fun W => Keeps [w.heap.size] w51 W ∧ W.heap[w.heap.size]? = some (.cells #[.int .i64 u.1, .string u.2] 101 (0, 0))) ⟨(by with_reducible repeat (first | exact k0 _ _ | refine kA ?_ _ | refine kD ?_ | refine kS ?_ (by simp) | refine kM ?_ (by simp))), (by simp only [hS, hA, hD, hM, reduceIte, Option.map_some, Obj.put, Rw51_B.out, Nat.ne_of_lt l_B, Nat.ne_of_gt l_B] <;> rfl)⟩ ?_
      rintro w52 ⟨Kw52, cw52_B⟩
      have Rw52_R := zh (Kw52.at Rw51_R.out (by simp [n_R_B]))
      have Rw52_U := zh (Kw52.at Rw51_U.out (by simp [n_U_B]))
      have HCw52 := zh (HCw51.out.kp Kw52 (by simp [o0_B]) (by simp [n_c_B]) (by simp [n_mf_B]) (by simp [n_ms_B]) (by simp [n_mn_B]) (by simp [(off_B).2.2.2]))
      have HSw52 := zh (HSw51.out.loc Kw52 (by simp [o_B]))
      have HKw52 := zh (HKw51.out.trans Kw52 (by simp [o_B]))
      have Rw52_B := zh cw52_B
      clear Kw52 cw52_B l_c l_B xB_0 xB_1 yB_0 yB_1 l_R l_U xU_0 xU_1 yU_0 yU_1 l_mf l_ms l_mn Rw51_R Rw51_U HCw51 HSw51 HKw51 Rw51_B
      exact ⟨u, HF.out, HCw52.out, HKw52.out, Rw52_B.out, Rw52_R.out⟩
end Go.Proofs.YtkfillfkbhbbjaaGreatDoor
namespace Go.Proofs.YtkfillfkbhbbjaaGreatDoor
open Go.RowKit

def OfI (K : CKey) (T : Nat → Prop) (ua : Option Addr) (uc : Nat) (st : NS) (name : ByteArray) (ps : List ByteArray) (w : World) (R : Nat) (g : Nat) (i : Value) (W : World) : Prop :=
 ∃ k : Nat, i = .int .i64 k ∧ k ≤ ps.length ∧ g + k = ps.length + 1 ∧ memB name (ps.take k) = false ∧ CK K T ua uc st W ∧ CStep K T T w W ∧ W.heap[R]? = some (.cells #[.int .i64 0, .string ⟨#[]⟩] 101 (0, 0))
theorem memB_append (s : ByteArray) : ∀ (l m : List ByteArray), memB s (l ++ m) = (memB s l || memB s m)
 | [], m => by simp [memB]
 | x :: l, m => by
  simp only [List.cons_append, memB]
  by_cases h : same s x = true
  ·simp [h]
  ·simp [h, memB_append s l m]
theorem same_comm (a b : ByteArray) : same a b = same b a := by
 by_cases h : a = b
 ·rw [h]
 ·have h1 : ¬ same a b = true := fun h2 => h (same_iff.1 h2)
  have h2 : ¬ same b a = true := fun h2 => h (same_iff.1 h2).symm
  simp only [Bool.not_eq_true] at h1 h2
  rw [h1, h2]

theorem of_fn {K : CKey} (hK : CFix K) {T : Nat → Prop} {ua : Option Addr} {uc : Nat} {st : NS} {w : World} (h : CK K T ua uc st w) (name : ByteArray) {i : Nat} (hfn : st.fn = i + 1) (hi : i < K.g.funcs.length) :
  Calls Tryz.prog 75 #[.pointer (some ⟨K.c, 0, none⟩), .string name] w fun r w' => ∃ a st', r = .returned (.agg #[.int .i64 a, .string name]) ∧ ((memB name K.g.funcs[i].params = true ∧ a = (st.fn : Int) ∧ st' = st) ∨ (memB name K.g.funcs[i].params = false ∧ a = 0 ∧ st' = seePut st (0, name))) ∧ CK K T ua uc st' w' ∧ CStep K T T w w' := by
 have d0 : decide (0 < st.fn) = true := by simp [hfn]
 have d1 : (0 : Int) < (st.fn : Int) := by omega
 have d2 : (st.fn : Int) - 1 = (i : Int) := by omega
 have d3 : (i : Int) < (K.g.funcs.length : Int) := by omega
 have d4 : (st.fn : Int) ≤ 1000000 := by have := h.fn; have := hK.small; omega
 have d5 : K.g.funcs[i].params.length ≤ 1000000 := hK.psmall _ (List.getElem_mem hi)
 have HC0 := zh h; have HS0 := zh (CStep.refl K T w); have HF := zh hfn
 clear h hfn
 go_enter Tryz.func75, Tryz.ntmps75
 obtain ⟨l_c, xc_0, xc_1, xc_2, xc_3, xc_4, xc_5, xc_6, xc_7, xc_8, xc_9, xc_10, yc_0, yc_1, yc_2, yc_3, yc_4, yc_5, yc_6, yc_7, yc_8, yc_9, yc_10⟩ := cf11 HC0.out.row
 obtain ⟨-, l_mf, l_ms, l_mn⟩ := HC0.out.lt
 go_upto_region 2 with fail
 refine wp_at (fun W => Keeps [] w W ∧ W.heap[w.heap.size]? = some (.cells #[.int .i64 0, .string ⟨#[]⟩] 101 (0, 0))) ⟨(by with_reducible repeat (first | exact k0 _ _ | refine kA ?_ _ | refine kD ?_ | refine kS ?_ (by simp) | refine kM ?_ (by simp))), (by simp only [hS, hA, hD, hM, World.size_setCell, World.size_drew, reduceIte, Option.map_some, Obj.put] <;> rfl)⟩ ?_
 rintro w1 ⟨Kw1, cw1_R⟩
 have ⟨n_c_R, n_R_c⟩ := zne l_c
 have ⟨n_mf_R, n_R_mf⟩ := zne l_mf
 have ⟨n_ms_R, n_R_ms⟩ := zne l_ms
 have ⟨n_mn_R, n_R_mn⟩ := zne l_mn
 have o_R : w.heap.size ≤ w.heap.size := Nat.le_refl _
 have off_R : Off K T (w.heap.size) := off_new HC0.out (Nat.le_refl _)
 have o0_R : K.w0.heap.size ≤ w.heap.size := Nat.le_trans HC0.out.keep.size (Nat.le_refl _)
 have HCw1 := zh (HC0.out.kp0 Kw1)
 have HSw1 := zh (HS0.out.loc Kw1 (by simp))
 have Rw1_R := zh cw1_R
 clear Kw1 cw1_R l_c xc_0 xc_1 xc_2 xc_3 xc_4 xc_5 xc_6 xc_7 xc_8 xc_9 xc_10 yc_0 yc_1 yc_2 yc_3 yc_4 yc_5 yc_6 yc_7 yc_8 yc_9 yc_10 l_mf l_ms l_mn HC0 HS0
 obtain ⟨l_c, xc_0, xc_1, xc_2, xc_3, xc_4, xc_5, xc_6, xc_7, xc_8, xc_9, xc_10, yc_0, yc_1, yc_2, yc_3, yc_4, yc_5, yc_6, yc_7, yc_8, yc_9, yc_10⟩ := cf11 HCw1.out.row
 obtain ⟨-, l_mf, l_ms, l_mn⟩ := HCw1.out.lt
 have l_R := h_lt Rw1_R.out
 obtain ⟨g, o, pa, pc, b0, b1, b2, b3, b4, hfa, -, hcp, -, -, -, -, -, -, hsp, -⟩ := CK.func hK (HCw1.out.kp0 (Keeps.drew [] w1)) hi
 have HSP := zh hsp; have HFA := zh hfa
 clear hsp
 rw [hfa] at xc_1
 go_cut [25, 26, 27] (fun s25 s26 s27 W => s25 = .slice pa K.g.funcs[i].params.length pc ∧ s26 = .int .i64 K.g.funcs[i].params.length ∧ s27 = .int .i64 0 ∧ Keeps [] w1 W)
 case first =>
  go_region
  all_goals
   go_wp2_with fail
   go_meet
   case rel => exact ⟨rfl, rfl, rfl, (by with_reducible repeat (first | exact k0 _ _ | refine kA ?_ _ | refine kD ?_ | refine kS ?_ (by simp) | refine kM ?_ (by simp)))⟩
 case rest =>
  obtain ⟨rfl, rfl, rfl, hk⟩ := hcut
  have HCl := zh (HCw1.out.kp0 hk); have HSl := zh (HSw1.out.loc hk (by simp)); have RRl := zh (hk.at Rw1_R.out (by simp))
  clear hk hcp l_c xc_0 xc_1 xc_2 xc_3 xc_4 xc_5 xc_6 xc_7 xc_8 xc_9 xc_10 yc_0 yc_1 yc_2 yc_3 yc_4 yc_5 yc_6 yc_7 yc_8 yc_9 yc_10 l_R l_mf l_ms l_mn HCw1 HSw1
  clear hfa
  generalize wc = wl at *
  go_wp2_with fail
  go_loopg [27] (K.g.funcs[i].params.length + 1) (fun g j wr => OfI K T ua uc st name K.g.funcs[i].params w (w.heap.size) g j wr)
  case atStart => exact ⟨0, rfl, Nat.zero_le _, rfl, rfl, HCl.out, HSl.out, RRl.out⟩
  case round =>
   obtain ⟨k, rfl, hk1, hk2, hm, hc, hs, hR⟩ := hrel
   have HCr := zh hc; have HSr := zh hs; have RR := zh hR; have HM0 := zh hm
   clear hc hs hR hm
   by_cases hlt : k < K.g.funcs[i].params.length
   ·obtain ⟨g2, o2, hpa, hcs⟩ := CK.str HCr.out HSP.out hlt
    subst hpa
    have hta : K.g.funcs[i].params.take (k + 1) = K.g.funcs[i].params.take k ++ [K.g.funcs[i].params[k]] := List.take_succ_eq_append_getElem hlt
    have hmt : memB name (K.g.funcs[i].params.take (k + 1)) = same name K.g.funcs[i].params[k] := by
     rw [hta, memB_append, HM0.out]; simp only [memB, Bool.false_or]; split <;> simp_all
    by_cases heq : same K.g.funcs[i].params[k] name = true
    ·have hm1 : memB name K.g.funcs[i].params = true := by
      have h1 := List.take_append_drop (k + 1) K.g.funcs[i].params
      rw [← h1, memB_append, hmt, same_comm, heq]; rfl
     have heb : (K.g.funcs[i].params[k].toList == name.toList) = true := by rw [same_eq]; exact heq
     have HMT := zh hm1
     clear hta hmt hm1 heq
     generalize K.g.funcs[i].params[k] = q at *
     obtain ⟨l_c, xc_0, xc_1, xc_2, xc_3, xc_4, xc_5, xc_6, xc_7, xc_8, xc_9, xc_10, yc_0, yc_1, yc_2, yc_3, yc_4, yc_5, yc_6, yc_7, yc_8, yc_9, yc_10⟩ := cf11 HCr.out.row
     obtain ⟨-, l_mf, l_ms, l_mn⟩ := HCr.out.lt
     obtain ⟨l_R, xR_0, xR_1, yR_0, yR_1⟩ := cf2 RR.out
     go_wp2_with fail
     refine ret_at (v := .agg #[.int .i64 st.fn, .string name]) (fun W => Keeps [w.heap.size] wr W ∧ W.heap[w.heap.size]? = some (.cells #[.int .i64 st.fn, .string name] 101 (0, 0))) ⟨(by with_reducible repeat (first | exact k0 _ _ | refine kA ?_ _ | refine kD ?_ | refine kS ?_ (by simp) | refine kM ?_ (by simp))), (by simp only [hS, hA, hD, hM, reduceIte, Option.map_some, Obj.put, RR.out, Nat.ne_of_lt l_R, Nat.ne_of_gt l_R] <;> rfl)⟩ (fun w51 hW => ?_) rfl (fun w51 hW => ?_)
     ·obtain ⟨Kw51, cw51_R⟩ := hW
      have q0 := cell_of_heap cw51_R 0
      have q1 := cell_of_heap cw51_R 1
      simp at q0 q1
      simp [results, Tryz.results75, go_sem, q0, q1]
     ·obtain ⟨Kw51, cw51_R⟩ := hW
      have HCw51 := zh (HCr.out.kp Kw51 (by simp [o0_R]) (by simp [n_c_R]) (by simp [n_mf_R]) (by simp [n_ms_R]) (by simp [n_mn_R]) (by simp [(off_R).2.2.2]))
      have HSw51 := zh (HSr.out.loc Kw51 (by simp [o_R]))
      have Rw51_R := zh cw51_R
      clear Kw51 cw51_R l_c xc_0 xc_1 xc_2 xc_3 xc_4 xc_5 xc_6 xc_7 xc_8 xc_9 xc_10 yc_0 yc_1 yc_2 yc_3 yc_4 yc_5 yc_6 yc_7 yc_8 yc_9 yc_10 l_R xR_0 xR_1 yR_0 yR_1 l_mf l_ms l_mn HCr HSr RR
      exact ⟨_, _, rfl, .inl ⟨HMT.out, rfl, rfl⟩, HCw51.out, HSw51.out⟩
    ·simp only [Bool.not_eq_true] at heq
     have heb : (K.g.funcs[i].params[k].toList == name.toList) = false := by rw [same_eq]; exact heq
     have HM := zh (show memB name (K.g.funcs[i].params.take (k + 1)) = false by rw [hmt, same_comm]; exact heq)
     clear hta hmt heq
     generalize K.g.funcs[i].params[k] = q at *
     cases gk with
     | zero => omega
     | succ f =>
      obtain ⟨l_c, l_mf, l_ms, l_mn⟩ := HCr.out.lt
      have l_R := h_lt RR.out
      go_wp2_with fail
      go_roundg f
      case measure => omega
      case rel =>
       exact ⟨k + 1, by first | rfl | (simp; done) | (simp; omega), by omega, by omega, HM.out, HCr.out, HSr.out, RR.out⟩
   ·have hke : k = K.g.funcs[i].params.length := by omega
    have HMF := zh (show memB name K.g.funcs[i].params = false by have := HM0.out; rw [hke, List.take_length] at this; exact this)
    clear hke
    obtain ⟨l_c, l_mf, l_ms, l_mn⟩ := HCr.out.lt
    have l_R := h_lt RR.out
    go_upto_region 9 with fail
    refine wp_at (fun W => Keeps [] wr W ∧ W.heap[wr.heap.size]? = some (.cells #[.int .i64 0, .string name] 101 (0, 0))) ⟨(by with_reducible repeat (first | exact k0 _ _ | refine kA ?_ _ | refine kD ?_ | refine kS ?_ (by simp) | refine kM ?_ (by simp))), (by simp only [hS, hA, hD, hM, World.size_setCell, World.size_drew, reduceIte, Option.map_some, Obj.put] <;> rfl)⟩ ?_
    rintro w51 ⟨Kw51, cw51_U⟩
    have ⟨n_c_U, n_U_c⟩ := zne l_c
    have ⟨n_mf_U, n_U_mf⟩ := zne l_mf
    have ⟨n_ms_U, n_U_ms⟩ := zne l_ms
    have ⟨n_mn_U, n_U_mn⟩ := zne l_mn
    have ⟨n_R_U, n_U_R⟩ := zne l_R
    have o_U : w.heap.size ≤ wr.heap.size := HSr.out.size
    have off_U : Off K T (wr.heap.size) := off_new HCr.out (Nat.le_refl _)
    have o0_U : K.w0.heap.size ≤ wr.heap.size := Nat.le_trans HCr.out.keep.size (Nat.le_refl _)
    have Rw51_R := zh (Kw51.at RR.out (by simp))
    have HCw51 := zh (HCr.out.kp0 Kw51)
    have HSw51 := zh (HSr.out.loc Kw51 (by simp))
    have Rw51_U := zh cw51_U
    clear Kw51 cw51_U l_c l_R l_mf l_ms l_mn RR HCr HSr
    obtain ⟨l_c, xc_0, xc_1, xc_2, xc_3, xc_4, xc_5, xc_6, xc_7, xc_8, xc_9, xc_10, yc_0, yc_1, yc_2, yc_3, yc_4, yc_5, yc_6, yc_7, yc_8, yc_9, yc_10⟩ := cf11 HCw51.out.row
    obtain ⟨-, l_mf, l_ms, l_mn⟩ := HCw51.out.lt
    have l_R := h_lt Rw51_R.out
    obtain ⟨l_U, xU_0, xU_1, yU_0, yU_1⟩ := cf2 Rw51_U.out
    obtain ⟨es, ek, hes, hes2⟩ := HCw51.out.seen
    have HEB := zh hes; have HES := zh hes2
    clear hes hes2
    have hup : (Instr.mapUpdate 67 (.map (some K.mn)) (.agg #[.int .i64 (0), .string name]) (.agg #[])).run Tryz.prog w51.drew = .ok () (mset w51.drew K.mn (.map (ents tval (kput ((0, name) : Thing) (.agg #[]) ek es).1) (kput ((0, name) : Thing) (.agg #[]) ek es).2)) := run_see (K := K) (W := w51.drew) HEB.out (0) name
    go_cut [] (fun W => Keeps [K.mn] w51 W ∧ W.heap[K.mn]? = some (.map (ents tval (kput ((0, name) : Thing) (.agg #[]) ek es).1) (kput ((0, name) : Thing) (.agg #[]) ek es).2))
    case first =>
     go_region
     all_goals
      go_wp2_with fail
      go_meet
      case rel => exact ⟨(by with_reducible repeat (first | exact k0 _ _ | refine kA ?_ _ | refine kD ?_ | refine kS ?_ (by simp) | refine kM ?_ (by simp))), (by simp only [hS, hA, hD, hM, reduceIte, Option.map_some, HEB.out] <;> rfl)⟩
    case rest =>
     obtain ⟨Kw52, cc_mn⟩ := hcut
     generalize wc = w52 at *
     have cw52_mn := cc_mn
     clear cc_mn hup
     have Rw52_R := zh (Kw52.at Rw51_R.out (by simp [n_R_mn]))
     have Rw52_U := zh (Kw52.at Rw51_U.out (by simp [n_U_mn]))
     have HCw52 : Hid (CK K T ua uc (seePut st (0, name)) w52) := zh (HCw51.out.see hK (0, name) HES.out Kw52 cw52_mn)
     have HSw52 := zh (HSw51.out.mn Kw52)
     have Rw52_mn := zh cw52_mn
     clear Kw52 cw52_mn l_c xc_0 xc_1 xc_2 xc_3 xc_4 xc_5 xc_6 xc_7 xc_8 xc_9 xc_10 yc_0 yc_1 yc_2 yc_3 yc_4 yc_5 yc_6 yc_7 yc_8 yc_9 yc_10 l_R l_U xU_0 xU_1 yU_0 yU_1 l_mf l_ms l_mn Rw51_R Rw51_U HCw51 HSw51
     obtain ⟨l_c, l_mf, l_ms, l_mn⟩ := HCw52.out.lt
     obtain ⟨l_R, xR_0, xR_1, yR_0, yR_1⟩ := cf2 Rw52_R.out
     obtain ⟨l_U, xU_0, xU_1, yU_0, yU_1⟩ := cf2 Rw52_U.out
     go_wp2_with fail
     refine ret_at (v := .agg #[.int .i64 0, .string name]) (fun W => Keeps [w.heap.size] w52 W ∧ W.heap[w.heap.size]? = some (.cells #[.int .i64 0, .string name] 101 (0, 0))) ⟨(by with_reducible repeat (first | exact k0 _ _ | refine kA ?_ _ | refine kD ?_ | refine kS ?_ (by simp) | refine kM ?_ (by simp))), (by simp only [hS, hA, hD, hM, reduceIte, Option.map_some, Obj.put, Rw52_R.out, Nat.ne_of_lt l_R, Nat.ne_of_gt l_R] <;> rfl)⟩ (fun w53 hW => ?_) rfl (fun w53 hW => ?_)
     ·obtain ⟨Kw53, cw53_R⟩ := hW
      have q0 := cell_of_heap cw53_R 0
      have q1 := cell_of_heap cw53_R 1
      simp at q0 q1
      simp [results, Tryz.results75, go_sem, q0, q1]
     ·obtain ⟨Kw53, cw53_R⟩ := hW
      have Rw53_U := zh (Kw53.at Rw52_U.out (by simp [n_U_R]))
      have HCw53 := zh (HCw52.out.kp Kw53 (by simp [o0_R]) (by simp [n_c_R]) (by simp [n_mf_R]) (by simp [n_ms_R]) (by simp [n_mn_R]) (by simp [(off_R).2.2.2]))
      have HSw53 := zh (HSw52.out.loc Kw53 (by simp [o_R]))
      have Rw53_R := zh cw53_R
      clear Kw53 cw53_R l_c l_R xR_0 xR_1 yR_0 yR_1 l_U xU_0 xU_1 yU_0 yU_1 l_mf l_ms l_mn Rw52_U HCw52 HSw52 Rw52_R
      exact ⟨_, _, rfl, .inr ⟨HMF.out, rfl, rfl⟩, HCw53.out, HSw53.out⟩

theorem of_0 {K : CKey} (hK : CFix K) {T : Nat → Prop} {ua : Option Addr} {uc : Nat} {st : NS} {w : World} (h : CK K T ua uc st w) (name : ByteArray) (h0 : decide (0 < st.fn) = false) :
  Calls Tryz.prog 75 #[.pointer (some ⟨K.c, 0, none⟩), .string name] w fun r w' => r = .returned (.agg #[.int .i64 0, .string name]) ∧ CK K T ua uc (seePut st (0, name)) w' ∧ CStep K T T w w' := by
 have HC0 := zh h; have HS0 := zh (CStep.refl K T w)
 clear h
 go_enter Tryz.func75, Tryz.ntmps75
 obtain ⟨l_c, xc_0, xc_1, xc_2, xc_3, xc_4, xc_5, xc_6, xc_7, xc_8, xc_9, xc_10, yc_0, yc_1, yc_2, yc_3, yc_4, yc_5, yc_6, yc_7, yc_8, yc_9, yc_10⟩ := cf11 HC0.out.row
 obtain ⟨-, l_mf, l_ms, l_mn⟩ := HC0.out.lt
 have l_mf_1 : K.mf < w.heap.size + 1 := Nat.lt_add_right 1 l_mf
 have l_ms_1 : K.ms < w.heap.size + 1 := Nat.lt_add_right 1 l_ms
 have l_mn_1 : K.mn < w.heap.size + 1 := Nat.lt_add_right 1 l_mn
 have l_c_1 : K.c < w.heap.size + 1 := Nat.lt_add_right 1 l_c
 go_upto_region 9 with fail
 refine wp_at (fun W => Keeps [] w W ∧ W.heap[w.heap.size]? = some (.cells #[.int .i64 0, .string ⟨#[]⟩] 101 (0, 0)) ∧ W.heap[w.heap.size + 1]? = some (.cells #[.int .i64 0, .string name] 101 (0, 0))) ⟨(by with_reducible repeat (first | exact k0 _ _ | refine kA ?_ _ | refine kD ?_ | refine kS ?_ (by simp) | refine kM ?_ (by simp))), (by simp only [hS, hA, hD, hM, World.size_alloc, World.size_setCell, World.size_drew, size_mset, Nat.add_right_cancel_iff, Nat.left_eq_add, Nat.add_eq_left, Nat.reduceEqDiff, Nat.add_assoc, Nat.reduceAdd, Nat.one_ne_zero, Nat.zero_ne_one, reduceIte, Option.map_some, Obj.put] <;> rfl), (by simp only [hS, hA, hD, hM, World.size_alloc, World.size_setCell, World.size_drew, size_mset, Nat.add_right_cancel_iff, Nat.left_eq_add, Nat.add_eq_left, Nat.reduceEqDiff, Nat.add_assoc, Nat.reduceAdd, Nat.one_ne_zero, Nat.zero_ne_one, reduceIte, Option.map_some, Obj.put] <;> rfl)⟩ ?_
 rintro w1 ⟨Kw1, cw1_R, cw1_U⟩
 have ⟨n_c_R, n_R_c⟩ := zne l_c
 have ⟨n_mf_R, n_R_mf⟩ := zne l_mf
 have ⟨n_ms_R, n_R_ms⟩ := zne l_ms
 have ⟨n_mn_R, n_R_mn⟩ := zne l_mn
 have o_R : w.heap.size ≤ w.heap.size := Nat.le_refl _
 have off_R : Off K T (w.heap.size) := off_new HC0.out (Nat.le_refl _)
 have o0_R : K.w0.heap.size ≤ w.heap.size := Nat.le_trans HC0.out.keep.size (Nat.le_refl _)
 have ⟨n_c_U, n_U_c⟩ := zne (Nat.lt_add_right 1 l_c)
 have ⟨n_mf_U, n_U_mf⟩ := zne (Nat.lt_add_right 1 l_mf)
 have ⟨n_ms_U, n_U_ms⟩ := zne (Nat.lt_add_right 1 l_ms)
 have ⟨n_mn_U, n_U_mn⟩ := zne (Nat.lt_add_right 1 l_mn)
 have n_R_U : w.heap.size ≠ w.heap.size + 1 := by simp
 have n_U_R : w.heap.size + 1 ≠ w.heap.size := by simp
 have o_U : w.heap.size ≤ w.heap.size + 1 := Nat.le_trans (Nat.le_refl _) (Nat.le_add_right _ 1)
 have off_U : Off K T (w.heap.size + 1) := off_new HC0.out (Nat.le_add_right _ 1)
 have o0_U : K.w0.heap.size ≤ w.heap.size + 1 := Nat.le_trans HC0.out.keep.size (Nat.le_add_right _ 1)
 have HCw1 := zh (HC0.out.kp0 Kw1)
 have HSw1 := zh (HS0.out.loc Kw1 (by simp))
 have Rw1_R := zh cw1_R
 have Rw1_U := zh cw1_U
 clear Kw1 cw1_R cw1_U l_c l_c_1 xc_0 xc_1 xc_2 xc_3 xc_4 xc_5 xc_6 xc_7 xc_8 xc_9 xc_10 yc_0 yc_1 yc_2 yc_3 yc_4 yc_5 yc_6 yc_7 yc_8 yc_9 yc_10 l_mf_1 l_ms_1 l_mn_1 l_mf l_ms l_mn HC0 HS0
 obtain ⟨l_c, xc_0, xc_1, xc_2, xc_3, xc_4, xc_5, xc_6, xc_7, xc_8, xc_9, xc_10, yc_0, yc_1, yc_2, yc_3, yc_4, yc_5, yc_6, yc_7, yc_8, yc_9, yc_10⟩ := cf11 HCw1.out.row
 obtain ⟨-, l_mf, l_ms, l_mn⟩ := HCw1.out.lt
 have l_R := h_lt Rw1_R.out
 obtain ⟨l_U, xU_0, xU_1, yU_0, yU_1⟩ := cf2 Rw1_U.out
 obtain ⟨es, ek, hes, hes2⟩ := HCw1.out.seen
 have HEB := zh hes; have HES := zh hes2
 clear hes hes2
 have hup : (Instr.mapUpdate 67 (.map (some K.mn)) (.agg #[.int .i64 (0), .string name]) (.agg #[])).run Tryz.prog w1.drew = .ok () (mset w1.drew K.mn (.map (ents tval (kput ((0, name) : Thing) (.agg #[]) ek es).1) (kput ((0, name) : Thing) (.agg #[]) ek es).2)) := run_see (K := K) (W := w1.drew) HEB.out (0) name
 go_cut [] (fun W => Keeps [K.mn] w1 W ∧ W.heap[K.mn]? = some (.map (ents tval (kput ((0, name) : Thing) (.agg #[]) ek es).1) (kput ((0, name) : Thing) (.agg #[]) ek es).2))
 case first =>
  go_region
  all_goals
   go_wp2_with fail
   go_meet
   case rel => exact ⟨(by with_reducible repeat (first | exact k0 _ _ | refine kA ?_ _ | refine kD ?_ | refine kS ?_ (by simp) | refine kM ?_ (by simp))), (by simp only [hS, hA, hD, hM, reduceIte, Option.map_some, HEB.out] <;> rfl)⟩
 case rest =>
  obtain ⟨Kw2, cc_mn⟩ := hcut
  generalize wc = w2 at *
  have cw2_mn := cc_mn
  clear cc_mn hup
  have Rw2_R := zh (Kw2.at Rw1_R.out (by simp [n_R_mn]))
  have Rw2_U := zh (Kw2.at Rw1_U.out (by simp [n_U_mn]))
  have HCw2 : Hid (CK K T ua uc (seePut st (0, name)) w2) := zh (HCw1.out.see hK (0, name) HES.out Kw2 cw2_mn)
  have HSw2 := zh (HSw1.out.mn Kw2)
  have Rw2_mn := zh cw2_mn
  clear Kw2 cw2_mn l_c xc_0 xc_1 xc_2 xc_3 xc_4 xc_5 xc_6 xc_7 xc_8 xc_9 xc_10 yc_0 yc_1 yc_2 yc_3 yc_4 yc_5 yc_6 yc_7 yc_8 yc_9 yc_10 l_R l_U xU_0 xU_1 yU_0 yU_1 l_mf l_ms l_mn Rw1_R Rw1_U HCw1 HSw1
  obtain ⟨l_c, l_mf, l_ms, l_mn⟩ := HCw2.out.lt
  obtain ⟨l_R, xR_0, xR_1, yR_0, yR_1⟩ := cf2 Rw2_R.out
  obtain ⟨l_U, xU_0, xU_1, yU_0, yU_1⟩ := cf2 Rw2_U.out
  go_wp2_with fail
  refine ret_at (v := .agg #[.int .i64 0, .string name]) (fun W => Keeps [w.heap.size] w2 W ∧ W.heap[w.heap.size]? = some (.cells #[.int .i64 0, .string name] 101 (0, 0))) ⟨(by with_reducible repeat (first | exact k0 _ _ | refine kA ?_ _ | refine kD ?_ | refine kS ?_ (by simp) | refine kM ?_ (by simp))), (by simp only [hS, hA, hD, hM, reduceIte, Option.map_some, Obj.put, Rw2_R.out, Nat.ne_of_lt l_R, Nat.ne_of_gt l_R] <;> rfl)⟩ (fun w3 hW => ?_) rfl (fun w3 hW => ?_)
  ·obtain ⟨Kw3, cw3_R⟩ := hW
   have q0 := cell_of_heap cw3_R 0
   have q1 := cell_of_heap cw3_R 1
   simp at q0 q1
   simp [results, Tryz.results75, go_sem, q0, q1]
  ·obtain ⟨Kw3, cw3_R⟩ := hW
   have Rw3_U := zh (Kw3.at Rw2_U.out (by simp [n_U_R]))
   have HCw3 := zh (HCw2.out.kp Kw3 (by simp [o0_R]) (by simp [n_c_R]) (by simp [n_mf_R]) (by simp [n_ms_R]) (by simp [n_mn_R]) (by simp [(off_R).2.2.2]))
   have HSw3 := zh (HSw2.out.loc Kw3 (by simp [o_R]))
   have Rw3_R := zh cw3_R
   clear Kw3 cw3_R l_c l_R xR_0 xR_1 yR_0 yR_1 l_U xU_0 xU_1 yU_0 yU_1 l_mf l_ms l_mn Rw2_U HCw2 HSw2 Rw2_R
   exact ⟨rfl, HCw3.out, HSw3.out⟩
theorem ofF_name (g : ProgP) (st : NS) (name : ByteArray) : (ofF g st name).1.2 = name := by unfold ofF; split <;> rfl
theorem of_any {K : CKey} (hK : CFix K) {T : Nat → Prop} {ua : Option Addr} {uc : Nat} {st : NS} {w : World} (h : CK K T ua uc st w) (name : ByteArray) :
  Calls Tryz.prog 75 #[.pointer (some ⟨K.c, 0, none⟩), .string name] w fun r w' => r = .returned (.agg #[.int .i64 (ofF K.g st name).1.1, .string (ofF K.g st name).1.2]) ∧ CK K T ua uc (ofF K.g st name).2 w' ∧ CStep K T T w w' := by
 by_cases h0 : st.fn = 0
 ·have e1 : ofF K.g st name = ((0, name), seePut st (0, name)) := by unfold ofF; rw [if_neg (by omega)]
  rw [e1]
  exact of_0 hK h name (by simp [h0])
 ·obtain ⟨i, hfn⟩ : ∃ i, st.fn = i + 1 := ⟨st.fn - 1, by omega⟩
  have hi : i < K.g.funcs.length := by have := h.fn; omega
  have hp : paramsOf K.g st.fn = K.g.funcs[i].params := by unfold paramsOf; rw [hfn, Nat.add_sub_cancel, List.getElem?_eq_getElem hi]
  refine (of_fn hK h name hfn hi).mono fun r w' ⟨a, st', hr, hm, hc, hs⟩ => ?_
  subst hr
  rcases hm with ⟨hm, rfl, rfl⟩ | ⟨hm, rfl, rfl⟩
  ·have e1 : ofF K.g st' name = ((st'.fn, name), st') := by unfold ofF; rw [if_pos ⟨by omega, by rw [hp]; exact hm⟩]
   rw [e1]; exact ⟨rfl, hc, hs⟩
  ·have e1 : ofF K.g st name = ((0, name), seePut st (0, name)) := by unfold ofF; rw [if_neg (by rw [hp, hm]; simp)]
   rw [e1]; exact ⟨rfl, hc, hs⟩
end Go.Proofs.YtkfillfkbhbbjaaGreatDoor
namespace Go.Proofs.YtkfillfkbhbbjaaGreatDoor
open Go.RowKit Go.ChangeMaps

/-! ### what a map holds behind a store -/
def kput1 {κ : Type} [DecidableEq κ] (k : κ) (v : Value) (c : Nat) : List (Ent κ) → List (Ent κ)
 | [] => [⟨k, v, c⟩]
 | e :: l => if k = e.key then { e with val := v } :: l else e :: kput1 k v c l
theorem klook_succ {κ : Type} [DecidableEq κ] (k : κ) : ∀ (l : List (Ent κ)) (i : Nat), klook k l (i + 1) = (klook k l i).map fun x => (x.1 + 1, x.2)
 | [], _ => rfl
 | e :: l, i => by
  unfold klook
  split
  ·rfl
  ·exact klook_succ k l (i + 1)
theorem kput_eq {κ : Type} [DecidableEq κ] (k : κ) (v : Value) (c : Nat) : ∀ l : List (Ent κ), (kput k v c l).1 = kput1 k v c l
 | [] => rfl
 | e :: l => by
  have ih := kput_eq k v c l
  unfold kput at ih ⊢
  unfold kput1 klook
  by_cases h : k = e.key
  ·simp [h]
  ·rw [if_neg h, if_neg h, klook_succ]
   cases h2 : klook k l 0 with
   | none => rw [h2] at ih; simpa using ih
   | some x => rw [h2] at ih; simpa using ih
theorem kval_kput {κ : Type} [DecidableEq κ] (k s : κ) (v : Value) (c : Nat) : ∀ l : List (Ent κ), kval s (kput k v c l).1 = if s = k then some v else kval s l := by
 intro l
 rw [kput_eq]
 induction l with
 | nil =>
  unfold kput1
  rw [kval_cons]
 | cons e l ih =>
  unfold kput1
  by_cases h : k = e.key
  ·rw [if_pos h, kval_cons, kval_cons]
   by_cases h2 : s = e.key
   ·simp [h2, h]
   ·have : ¬ s = k := fun h3 => h2 (h3.trans h)
    simp [h2, this]
  ·rw [if_neg h, kval_cons, kval_cons, ih]
   by_cases h2 : s = e.key
   ·have : ¬ s = k := fun h3 => h (h3.symm.trans h2)
    simp [h2]
    intro h3
    exact absurd h3.symm h
   ·simp [h2]

/-- Block b is a map from things to numbers. -/
def KindW (W : World) (b : Nat) (f : Thing → Nat) : Prop := ∃ es k, W.heap[b]? = some (.map (ents tval es) k) ∧ ∀ t, (kval t es).getD (.int .i64 0) = .int .i64 (f t : Nat)
theorem KindW.keep {w w' : World} {b : Nat} {f : Thing → Nat} {fp : List Nat} (h : KindW w b f) (hk : Keeps fp w w') (hb : b ∉ fp) : KindW w' b f := by
 obtain ⟨es, k, h1, h2⟩ := h; exact ⟨es, k, hk.at h1 hb, h2⟩
theorem KindW.lt {w : World} {b : Nat} {f : Thing → Nat} (h : KindW w b f) : b < w.heap.size := by obtain ⟨_, _, h1, _⟩ := h; exact h_lt h1
theorem KindW.put {w' : World} {b : Nat} {f : Thing → Nat} {t : Thing} {n : Nat} {es : List (Ent Thing)} {k : Nat} (he : ∀ t, (kval t es).getD (.int .i64 0) = .int .i64 (f t : Nat))
  (hb : w'.heap[b]? = some (.map (ents tval (kput t (.int .i64 n) k es).1) (kput t (.int .i64 n) k es).2)) : KindW w' b (fun s => if s = t then n else f s) := by
 refine ⟨_, _, hb, fun s => ?_⟩
 rw [kval_kput]
 by_cases h : s = t
 ·simp [h]
 ·simp [h, he]

/-! ### a range over a set -/
/-- Block r: an iterator over the set in block b; it has handed out p; n are to come. -/
def RangeS (W : World) (r b : Nat) (l p : List Thing) (n : Nat) : Prop :=
 ∃ (es ps qs : List (Ent Thing)) (k : Nat), W.heap[b]? = some (.map (ents tval es) k) ∧ SetL es k l ∧ W.heap[r]? = some (.mapIter (some b) k (ps.map (·.born)).toArray k) ∧ (ps ++ qs).Perm es ∧ p = ps.map (·.key) ∧ n = qs.length
theorem RangeS.keep {w w' : World} {r b : Nat} {l p : List Thing} {n : Nat} {fp : List Nat} (h : RangeS w r b l p n) (hk : Keeps fp w w') (hb : b ∉ fp) (hr : r ∉ fp) : RangeS w' r b l p n := by
 obtain ⟨es, ps, qs, k, h1, h2, h3, h4⟩ := h; exact ⟨es, ps, qs, k, hk.at h1 hb, h2, hk.at h3 hr, h4⟩
theorem RangeS.lt {w : World} {r b : Nat} {l p : List Thing} {n : Nat} (h : RangeS w r b l p n) : r < w.heap.size ∧ b < w.heap.size := by
 obtain ⟨es, ps, qs, k, h1, h2, h3, h4⟩ := h; exact ⟨h_lt h3, h_lt h1⟩
theorem RangeS.start {w : World} {b : Nat} {l : List Thing} (h : SetT w b l) {t e : TypeId} {T : TypeId} (hT : Tryz.prog.underlying T = some (.map t e)) :
  ∃ w', (Instr.range T (.map (some b))).run Tryz.prog w = .ok (.pointer (some ⟨w.heap.size, 0, none⟩)) w' ∧ Keeps [] w w' ∧ w'.heap.size = w.heap.size + 1 ∧ RangeS w' w.heap.size b l [] l.length := by
 obtain ⟨es, k, h1, h2⟩ := h
 refine ⟨_, run_range_map w T t e b _ k hT h1, kA (k0 [] w) _, by simp, es, [], es, k, ?_, h2, ?_, by simp, rfl, ?_⟩
 ·rw [heap_alloc_old w _ (h_lt h1), h1]
 ·rw [heap_alloc_new]; rfl
 ·have := congrArg List.length h2.1
  simpa using this.symm
theorem SetL.keys {es : List (Ent Thing)} {k : Nat} {l : List Thing} (h : SetL es k l) : es.map (·.key) = l := by
 have := congrArg (List.map Prod.fst) h.1
 simpa [List.map_map, Function.comp_def] using this
theorem ents_born (es : List (Ent Thing)) : ((ents tval es).toList.map (·.born)) = es.map (·.born) := by simp [ents, Function.comp_def]
/-- The step: nothing is left, and all were handed out; or a thing comes. -/
theorem RangeS.next {w : World} {r b : Nat} {l p : List Thing} {n : Nat} (h : RangeS w r b l p n) (ty : TypeId) :
  (p.Perm l ∧ (Instr.next (.pointer (some ⟨r, 0, none⟩)) false ty).run Tryz.prog w = .ok (.tuple #[.bool false]) w) ∨
  ∃ (t : Thing) (m : Nat) (w' : World), t ∈ l ∧ n = m + 1 ∧ (Instr.next (.pointer (some ⟨r, 0, none⟩)) false ty).run Tryz.prog w = .ok (.tuple #[.bool true, .agg #[.int .i64 t.1, .string t.2], .agg #[]]) w' ∧ Keeps [r] w w' ∧ w'.heap.size = w.heap.size ∧ RangeS w' r b l (p ++ [t]) m := by
 obtain ⟨es, ps, qs, k, h1, h2, h3, h4, rfl, rfl⟩ := h
 have hborn : ∀ x ∈ (ents tval es).toList, x.born < k := fun x hx => by
  have : x.born ∈ (ents tval es).toList.map (·.born) := List.mem_map.2 ⟨x, hx, rfl⟩
  rw [ents_born] at this
  obtain ⟨e, he, hb⟩ := List.mem_map.1 this
  rw [← hb]; exact h2.2.2 e he
 have hnd : ((ps ++ qs).map (·.born)).Nodup := (h4.map (·.born)).nodup_iff.2 h2.2.1
 rcases run_next_at (P := Tryz.prog) w ty r b k k _ _ k h3 h1 hborn (Nat.le_refl _) with ⟨h0, hrun⟩ | ⟨x, hx, w1, hw1, hrun⟩
 ·refine .inl ⟨?_, hrun⟩
  have hq : qs = [] := by
   cases qs with
   | nil => rfl
   | cons e qs =>
    exfalso
    have hm : e ∈ es := h4.subset (by simp)
    have hn : e.born ∉ ps.map (·.born) := by
     simp only [List.map_append, List.map_cons] at hnd
     intro hc
     exact (List.nodup_append.1 hnd).2.2 _ hc _ (List.mem_cons_self ..) rfl
    have : (⟨tval e.key, e.val, e.born⟩ : MapEntry) ∈ leftOf (ents tval es) (ps.map (·.born)).toArray := by
     unfold leftOf
     rw [Array.mem_filter]
     refine ⟨?_, ?_⟩
     ·simp only [ents, List.mem_toArray, List.mem_map]; exact ⟨e, hm, rfl⟩
     ·simpa using hn
    rw [Array.eq_empty_of_size_eq_zero h0] at this
    simp at this
  subst hq
  rw [List.append_nil] at h4
  rw [← h2.keys]
  exact h4.map _
 ·right
  have hx2 : x ∈ leftOf (ents tval es) (ps.map (·.born)).toArray := by simpa using hx
  unfold leftOf at hx2
  rw [Array.mem_filter] at hx2
  obtain ⟨hxm, hxn⟩ := hx2
  simp only [ents, List.mem_toArray, List.mem_map] at hxm
  obtain ⟨e, hem, rfl⟩ := hxm
  have hen : e.born ∉ ps.map (·.born) := by simpa using hxn
  have heq : e ∈ qs := by
   have := h4.symm.subset hem
   rcases List.mem_append.1 this with h | h
   ·exact absurd (List.mem_map.2 ⟨e, h, rfl⟩) hen
   ·exact h
  obtain ⟨a, c, rfl⟩ := List.append_of_mem heq
  have hv : e.val = .agg #[] := by
   have : (e.key, e.val) ∈ es.map (fun e => (e.key, e.val)) := List.mem_map.2 ⟨e, hem, rfl⟩
   rw [h2.1] at this
   obtain ⟨x, _, hx⟩ := List.mem_map.1 this
   exact (Prod.mk.inj hx).2.symm
  have hw1h : w1.heap = w.heap := by rcases hw1 with rfl | rfl <;> rfl
  have hrl : r < w.heap.size := h_lt h3
  have hbl : b < w.heap.size := h_lt h1
  have hne : b ≠ r := fun hc => by subst hc; rw [h1] at h3; cases h3
  refine ⟨e.key, a.length + c.length, _, ?_, by simp; omega, by rw [hv] at hrun; exact hrun, ?_, ?_, es, ps ++ [e], a ++ c, k, ?_, h2, ?_, ?_, by simp, by simp⟩
  ·rw [← h2.keys]; exact List.mem_map.2 ⟨e, hem, rfl⟩
  ·rcases hw1 with rfl | rfl
   ·exact ⟨rfl, rfl, rfl, by simp [setBlock], fun j hj hn => by simp at hn; simp [setBlock, Array.getElem?_setIfInBounds, Ne.symm hn]⟩
   ·exact ⟨rfl, rfl, rfl, by simp [setBlock], fun j hj hn => by simp at hn; simp [setBlock, Array.getElem?_setIfInBounds, Ne.symm hn]; rfl⟩
  ·simp [setBlock, hw1h]
  ·simp [setBlock, hw1h, Ne.symm hne, h1]
  ·simp [setBlock, hw1h, hrl]
  ·refine List.Perm.trans ?_ h4
   simp only [List.append_assoc, List.cons_append, List.nil_append]
   exact (List.perm_middle.symm).append_left ps
end Go.Proofs.YtkfillfkbhbbjaaGreatDoor
namespace Go.Proofs.YtkfillfkbhbbjaaGreatDoor
open Go.RowKit

theorem lt_cell {w : World} {g o : Nat} {v : Value} (h : w.cell? ⟨g, o, none⟩ = some v) : g < w.heap.size := by
 rcases Nat.lt_or_ge g w.heap.size with h1 | h1
 ·exact h1
 ·simp [World.cell?, Array.getElem?_eq_none h1] at h
theorem RowR.get {w : World} {S : Nat → Prop} {g : Nat} : ∀ {ns : List Node} {o : Nat}, RowR w S g o ns → ∀ {i : Nat} (hi : i < ns.length), ∃ c0 c1 c2 c3 c4, w.cell? ⟨g, o + i * 5, none⟩ = some c0 ∧ w.cell? ⟨g, o + i * 5 + 1, none⟩ = some c1 ∧ w.cell? ⟨g, o + i * 5 + 2, none⟩ = some c2 ∧ w.cell? ⟨g, o + i * 5 + 3, none⟩ = some c3 ∧ w.cell? ⟨g, o + i * 5 + 4, none⟩ = some c4 ∧ NodeR w S ns[i] (.agg #[c0, c1, c2, c3, c4])
 | [], _, _, i, hi => by simp at hi
 | n :: ns, o, h, i, hi => by
  cases h with
  | cons hn h0 h1 h2 h3 h4 hr =>
   cases i with
   | zero => exact ⟨_, _, _, _, _, by simpa using h0, by simpa using h1, by simpa using h2, by simpa using h3, by simpa using h4, hn⟩
   | succ i =>
    have := RowR.get hr (i := i) (by simpa using hi)
    rw [show o + 5 + i * 5 = o + (i + 1) * 5 from by omega] at this
    simpa using this
theorem NodeR.kids {w : World} {S : Nat → Prop} {n : Node} {v : Value} (h : NodeR w S n v) : ∃ fm na nc, v = .agg #[.int .i64 n.kind, .string n.name, .float .f64 fm, .slice na n.kids.length nc, .complex .f64 n.re n.im] ∧ KidsR w S n.kids (.slice na n.kids.length nc) := by
 cases h with
 | mk hk =>
  obtain ⟨a, cap, rfl⟩ := hk.shape
  exact ⟨_, _, _, rfl, hk⟩
/-- A kid, in whatever world of the checker's. -/
theorem CK.kid {K : CKey} {T : Nat → Prop} {ua : Option Addr} {uc : Nat} {st : NS} {W : World} (h : CK K T ua uc st W) {kids : List Node} {a : Option Addr} {cap : Nat} (hs : KidsR K.w0 (fun _ => True) kids (.slice a kids.length cap)) {i : Nat} (hi : i < kids.length) :
  ∃ g o fm na nc, a = some ⟨g, o, none⟩ ∧ W.cell? ⟨g, o + i * 5, none⟩ = some (.int .i64 kids[i].kind) ∧ W.cell? ⟨g, o + i * 5 + 1, none⟩ = some (.string kids[i].name) ∧ W.cell? ⟨g, o + i * 5 + 2, none⟩ = some (.float .f64 fm) ∧ W.cell? ⟨g, o + i * 5 + 3, none⟩ = some (.slice na kids[i].kids.length nc) ∧ W.cell? ⟨g, o + i * 5 + 4, none⟩ = some (.complex .f64 kids[i].re kids[i].im) ∧
   NodeR K.w0 (fun _ => True) kids[i] (.agg #[.int .i64 kids[i].kind, .string kids[i].name, .float .f64 fm, .slice na kids[i].kids.length nc, .complex .f64 kids[i].re kids[i].im]) := by
 have key : ∃ g o, a = some ⟨g, o, none⟩ ∧ g < K.w0.heap.size ∧ RowR K.w0 (fun _ => True) g o kids := by
  generalize hv : Value.slice a kids.length cap = v at hs
  cases hs with
  | nil => simp at hi
  | some hS hg hr => injection hv with e1; exact ⟨_, _, e1, hg, hr⟩
 obtain ⟨g, o, rfl, hg, hr⟩ := key
 obtain ⟨c0, c1, c2, c3, c4, h0, h1, h2, h3, h4, hn⟩ := hr.get hi
 obtain ⟨fm, na, nc, hv, hk⟩ := hn.kids
 simp only [Value.agg.injEq, Array.mk.injEq, List.cons.injEq, and_true] at hv
 obtain ⟨rfl, rfl, rfl, rfl, rfl⟩ := hv
 have hc : ∀ j u, K.w0.cell? ⟨g, j, none⟩ = some u → W.cell? ⟨g, j, none⟩ = some u := fun j u hj => by
  rw [World.cell?_of_block (w := K.w0) (a := ⟨g, j, none⟩) (h.keep.block g hg (by simp))]; exact hj
 exact ⟨g, o, fm, na, nc, rfl, hc _ _ h0, hc _ _ h1, hc _ _ h2, hc _ _ h3, hc _ _ h4, hn⟩
/-- A use, read. -/
theorem CK.use {K : CKey} {T : Nat → Prop} {ua : Option Addr} {uc : Nat} {st : NS} {W : World} (h : CK K T ua uc st W) {i : Nat} (hi : i < st.uses.length) :
  ∃ g, ua = some ⟨g, 0, none⟩ ∧ W.cell? ⟨g, i * 8, none⟩ = some (.complex .f64 st.uses[i].re st.uses[i].im) ∧ W.cell? ⟨g, i * 8 + 1, none⟩ = some (.int .i64 st.uses[i].of.1) ∧ W.cell? ⟨g, i * 8 + 2, none⟩ = some (.string st.uses[i].of.2) ∧ W.cell? ⟨g, i * 8 + 3, none⟩ = some (.bool st.uses[i].array) ∧
   W.cell? ⟨g, i * 8 + 4, none⟩ = some (.int .i64 st.uses[i].param.1) ∧ W.cell? ⟨g, i * 8 + 5, none⟩ = some (.string st.uses[i].param.2) ∧ W.cell? ⟨g, i * 8 + 6, none⟩ = some (.bool st.uses[i].kid) ∧ W.cell? ⟨g, i * 8 + 7, none⟩ = some (.bool st.uses[i].bad) := by
 obtain ⟨xs, ho, ht, hx⟩ := h.uses
 rcases ho.2 with ⟨_, hn⟩ | ⟨g, cap, cur, hv, hb, hg, h1, h2, h3, h4⟩
 ·omega
 ·have hua : ua = some ⟨g, 0, none⟩ := by injection hv
  obtain ⟨c, hc, hj⟩ := hx.get (fun a c h => useL.len h) i hi
  have hc' : c = [.complex .f64 st.uses[i].re st.uses[i].im, .int .i64 st.uses[i].of.1, .string st.uses[i].of.2, .bool st.uses[i].array, .int .i64 st.uses[i].param.1, .string st.uses[i].param.2, .bool st.uses[i].kid, .bool st.uses[i].bad] := hc
  have key : ∀ j u, c[j]? = some u → W.cell? ⟨g, i * 8 + j, none⟩ = some u := fun j u h => by
   rw [cell_of_heap hg]
   have h5 : (cur.toList.take (st.uses.length * 8))[i * 8 + j]? = some u := by rw [h4]; exact hj j u h
   rw [List.getElem?_take] at h5
   split at h5
   ·simpa using h5
   ·cases h5
  subst hc'
  exact ⟨g, hua, key 0 _ rfl, key 1 _ rfl, key 2 _ rfl, key 3 _ rfl, key 4 _ rfl, key 5 _ rfl, key 6 _ rfl, key 7 _ rfl⟩

theorem useF_some {st st' : NS} {u : Use} (h : useF st u = some st') : st.uses.length < 100000 ∧ st' = { st with uses := st.uses ++ [u] } := by
 unfold useF at h
 split at h
 ·rename_i hl; exact ⟨hl, by simpa using h.symm⟩
 ·cases h
/-- A use was appended: the checker behind it. -/
theorem CK.app {K : CKey} (hK : CFix K) {T : Nat → Prop} {ua a2 : Option Addr} {uc c2 : Nat} {st : NS} {u : Use} {base W0 wq wa W' : World} {fl : List Nat} (hs0 : CStep K T T base W0) (h : CK K T ua uc st W0) (hq : Keeps [] W0 wq) (hfl : ∀ x ∈ fl, T x) (hka : Keeps fl wq wa)
  (hown : OwnL UseE 106 8 wa K.w0.heap.size (fun g => T g ∨ False ∨ (wq.heap.size ≤ g ∧ g < wa.heap.size)) (st.uses ++ [u]) (.slice a2 (st.uses ++ [u]).length c2)) (hk : Keeps [K.c] wa W') (hr : W'.heap[K.c]? = some (ckC K { st with uses := st.uses ++ [u] } a2 c2)) :
  ∃ T' ua' uc', CK K T' ua' uc' { st with uses := st.uses ++ [u] } W' ∧ CStep K T T' base W' := by
 have hcq := h.kp0 hq
 have hlt := hcq.lt
 have nf : ∀ b, ¬ T b → b ∉ fl := fun b hb hm => hb (hfl b hm)
 refine ⟨fun g => T g ∨ False ∨ (wq.heap.size ≤ g ∧ g < wa.heap.size), a2, c2, ⟨(hcq.keep.trans hka fun x hx => .inr (hcq.dn x (hfl x hx))).trans hk (by simp; exact hK.c), hr, (hcq.fns.keep hka (nf _ hcq.ns.2.1)).keep hk (by simp [Ne.symm hK.ne.1]), (hcq.same.keep hka (nf _ hcq.ns.2.2.1)).keep hk (by simp [Ne.symm hK.ne.2.1]), (hcq.seen.keep hka (nf _ hcq.ns.2.2.2)).keep hk (by simp [Ne.symm hK.ne.2.2.1]), hown.kp useL hk ?_, fun x hx => ?_, fun x hx => ?_, ?_, hcq.fn, hcq.loops⟩, (hs0.loc hq (by simp)).trans ⟨fun x hx => ?_, fl ++ [K.c], fun x hx => ?_, ?_⟩⟩
 ·intro x hx hx2
  simp at hx; subst hx
  rcases hx2 with h1 | h1 | h1
  ·exact hcq.ns.1 h1
  ·exact h1
  ·exact Nat.not_lt_of_le h1.1 hlt.1
 ·rcases hx with h1 | h1 | h1
  ·exact Nat.lt_of_lt_of_le (hcq.up x h1) (Nat.le_trans hka.size hk.size)
  ·exact h1.elim
  ·exact Nat.lt_of_lt_of_le h1.2 hk.size
 ·rcases hx with h1 | h1 | h1
  ·exact hcq.dn x h1
  ·exact h1.elim
  ·exact Nat.le_trans hcq.keep.size h1.1
 ·exact ⟨fun h => h.elim hcq.ns.1 fun h => h.elim id fun h => Nat.not_lt_of_le h.1 hlt.1, fun h => h.elim hcq.ns.2.1 fun h => h.elim id fun h => Nat.not_lt_of_le h.1 hlt.2.1, fun h => h.elim hcq.ns.2.2.1 fun h => h.elim id fun h => Nat.not_lt_of_le h.1 hlt.2.2.1, fun h => h.elim hcq.ns.2.2.2 fun h => h.elim id fun h => Nat.not_lt_of_le h.1 hlt.2.2.2⟩
 ·rcases hx with h1 | h1 | h1
  ·exact .inl h1
  ·exact h1.elim
  ·exact .inr ⟨h1.1, Nat.lt_of_lt_of_le h1.2 hk.size⟩
 ·rcases List.mem_append.1 hx with hx | hx
  ·exact .inr (.inr (.inr (hfl x hx)))
  ·simp at hx; exact .inl hx
 ·exact (hka.weaken (fp' := fl ++ [K.c]) (fun x hx => .inl (List.mem_append_left _ hx))).trans hk (by simp)
theorem CK.app' {K : CKey} (hK : CFix K) {T0 T : Nat → Prop} {ua a2 : Option Addr} {uc c2 B : Nat} {ob : Obj} {st : NS} {u : Use} {w base W0 wq wa W' : World} {fl : List Nat} (hs1 : CStep K T0 T w base) (hB : base.heap[B]? = some ob) (ho : Off K T B) (hs0 : CStep K T T base W0) (h : CK K T ua uc st W0) (hq : Keeps [] W0 wq) (hfl : ∀ x ∈ fl, T x) (hka : Keeps fl wq wa)
  (hown : OwnL UseE 106 8 wa K.w0.heap.size (fun g => T g ∨ False ∨ (wq.heap.size ≤ g ∧ g < wa.heap.size)) (st.uses ++ [u]) (.slice a2 (st.uses ++ [u]).length c2)) (hk : Keeps [K.c] wa W') (hr : W'.heap[K.c]? = some (ckC K { st with uses := st.uses ++ [u] } a2 c2)) :
  ∃ T' ua' uc', CK K T' ua' uc' { st with uses := st.uses ++ [u] } W' ∧ CStep K T0 T' w W' ∧ W'.heap[B]? = some ob ∧ Off K T' B := by
 obtain ⟨T', ua', uc', h1, h2⟩ := CK.app hK hs0 h hq hfl hka hown hk hr
 exact ⟨T', ua', uc', h1, hs1.trans h2, h2.at hB ho, h2.off (h_lt hB) ho⟩
/-- Blocks turned that are newer than a world in which the checker stood. -/
theorem CK.news {K : CKey} {T : Nat → Prop} {ua : Option Addr} {uc : Nat} {st0 st : NS} {base u W : World} {fp : List Nat} (hb : CK K T ua uc st0 base) (h : CK K T ua uc st u) (hk : Keeps fp u W) (hf : ∀ z ∈ fp, base.heap.size ≤ z) : CK K T ua uc st W := by
 have hl := hb.lt
 have ne : ∀ b, b < base.heap.size → b ∉ fp := fun b hb hm => Nat.not_lt_of_le (hf b hm) hb
 exact h.kp hk (fun z hz => Nat.le_trans hb.keep.size (hf z hz)) (ne _ hl.1) (ne _ hl.2.1) (ne _ hl.2.2.1) (ne _ hl.2.2.2) (fun z hz ht => Nat.not_lt_of_le (hf z hz) (hb.up z ht))
theorem rootF_root {m : List (Thing × Thing)} : ∀ {f : Nat} {t r : Thing}, rootF m f t = some r → alook r m = none
 | 0, _, _, h => by cases h
 | f + 1, t, r, h => by
  rw [rootF] at h
  cases ha : alook t m with
  | none => rw [ha] at h; simp at h; rw [← h]; exact ha
  | some u => rw [ha] at h; exact rootF_root (f := f) h
theorem CStep.ms {K : CKey} {T0 T : Nat → Prop} {w W W' : World} (h : CStep K T0 T w W) (hk : Keeps [K.ms] W W') : CStep K T0 T w W' :=
 h.trans ⟨fun _ h => .inl h, [K.ms], by simp, hk⟩
/-- Two things are one. -/
theorem CK.unite {K : CKey} (hK : CFix K) {T : Nat → Prop} {ua : Option Addr} {uc : Nat} {st : NS} {W W' : World} (h : CK K T ua uc st W) {t u : Thing} (hn : alook t st.same = none) {es : List (Ent Thing)} {k : Nat} (he : es.map (fun e => (e.key, e.val)) = st.same.map (fun x => (x.1, tval x.2))) (hk : Keeps [K.ms] W W')
  (hb : W'.heap[K.ms]? = some (.map (ents tval (kput t (tval u) k es).1) (kput t (tval u) k es).2)) : CK K T ua uc { st with same := st.same ++ [(t, u)] } W' :=
 ⟨h.keep.trans hk (by simp; exact hK.ms), hk.at h.row (by simp [hK.ne.2.1]), h.fns.keep hk (by simp [hK.ne.2.2.2.1]), MapT.put he hn hb, h.seen.keep hk (by simp [Ne.symm hK.ne.2.2.2.2.2]), h.uses.kp useL hk (by simp; exact h.ns.2.2.1), fun x hx => Nat.lt_of_lt_of_le (h.up x hx) hk.size, h.dn, h.ns, h.fn, h.loops⟩
theorem run_same {K : CKey} {es : List (Ent Thing)} {k : Nat} {W : World} (hb : W.heap[K.ms]? = some (.map (ents tval es) k)) (a b : Thing) :
  (Instr.mapUpdate 66 (.map (some K.ms)) (.agg #[.int .i64 a.1, .string a.2]) (.agg #[.int .i64 b.1, .string b.2])).run Tryz.prog W = .ok () (mset W K.ms (.map (ents tval (kput a (tval b) k es).1) (kput a (tval b) k es).2)) :=
 run_kput (P := Tryz.prog) keyT Tryz.underlying66 hb a (tval b)
theorem preF_mk (g : ProgP) (st : NS) (kd : Int) (tx : ByteArray) (fm : Nat) (kids : List Node) (re im : Nat) : preF g st (.mk kd tx fm kids re im) =
  if kd = 4 then useF (ofF g (namedF g st (.mk kd tx fm kids re im)) tx).2 ⟨re, im, (ofF g (namedF g st (.mk kd tx fm kids re im)) tx).1, false, noT, false, false⟩
  else if kd = 5 then useF (ofF g (namedF g st (.mk kd tx fm kids re im)) tx).2 ⟨re, im, (ofF g (namedF g st (.mk kd tx fm kids re im)) tx).1, true, noT, false, false⟩
  else if kd = 38 then some (if st.fn > 0 ∨ (st.rule ≠ 5 ∧ st.rule ≠ 6 ∧ st.rule ≠ 7) then faultF st re im 32 else st)
  else if kd = 40 then some (if st.fn = 0 then faultF st re im 32 else st)
  else if kd = 36 ∨ kd = 37 then some (if st.loops = 0 then faultF st re im 32 else st)
  else some st := rfl
/-- A walk of nodes answers as the plain one. -/
def NodeC (K : CKey) (rec : NRec) : Prop := ∀ st n st' v, rec st n = some st' → NodeR K.w0 (fun _ => True) n v → ∀ T ua uc w, CK K T ua uc st w → Calls Tryz.prog 43 #[.pointer (some ⟨K.c, 0, none⟩), v] w fun r w' => ∃ T' ua' uc', r = .returned (.tuple #[]) ∧ CK K T' ua' uc' st' w' ∧ CStep K T T' w w'
theorem ofF_uses (g : ProgP) (st : NS) (name : ByteArray) : (ofF g st name).2.uses = st.uses := by unfold ofF; split <;> rfl
theorem of_at {K : CKey} (hK : CFix K) {T : Nat → Prop} {ua : Option Addr} {uc : Nat} {st : NS} {base : World} (h : CK K T ua uc st base) (name : ByteArray) : ∀ W, Keeps [] base W → Calls Tryz.prog 75 #[.pointer (some ⟨K.c, 0, none⟩), .string name] W fun r w' => ∃ v, r = .returned v ∧ (v = .agg #[.int .i64 (ofF K.g st name).1.1, .string (ofF K.g st name).1.2] ∧ CK K T ua uc (ofF K.g st name).2 w' ∧ CStep K T T base w') :=
 fun W hk => (of_any hK (h.kp0 hk) name).mono fun _ _ ⟨h1, h2, h3⟩ => ⟨_, h1, rfl, h2, ((CStep.refl K T base).loc hk (by simp)).trans h3⟩
theorem root_at {K : CKey} {T : Nat → Prop} {ua : Option Addr} {uc : Nat} {st : NS} {base : World} (h : CK K T ua uc st base) {t r : Thing} {fu : Nat} (hx : rootF st.same fu t = some r) : ∀ W, Keeps [] base W → Calls Tryz.prog 45 #[.pointer (some ⟨K.c, 0, none⟩), .agg #[.int .i64 t.1, .string t.2]] W fun q w' => ∃ v, q = .returned v ∧ (v = .agg #[.int .i64 r.1, .string r.2] ∧ Keeps [] W w') :=
 fun W hk => (root_any (h.kp0 hk) hx).mono fun _ _ ⟨h1, h2⟩ => ⟨_, h1, rfl, h2⟩
end Go.Proofs.YtkfillfkbhbbjaaGreatDoor
namespace Go.Proofs.YtkfillfkbhbbjaaGreatDoor
open Go.RowKit Go.ChangeMaps

def rootD (st : NS) (t : Thing) : Thing := (rootN st t).getD noT
def spG (t : Thing) : Bool := decide (t.1 = 0) && specialF t.2
def spK (st : NS) (x t : Thing) : Bool := spG t && teq x (rootD st t)
theorem kindsS_ok {st : NS} : ∀ {l : List Thing} {k0 k : Kinds}, kindsS st l k0 = some k → (∀ t ∈ l, spG t = true → rootN st t = some (rootD st t)) ∧ ∀ x, kof x k = if l.any (spK st x) = true then 1 else kof x k0
 | [], k0, k, h => by
  simp only [kindsS, Option.some.injEq] at h
  subst h
  exact ⟨by simp, by simp⟩
 | t :: l, k0, k, h => by
  unfold kindsS at h
  by_cases hs : t.1 = 0 ∧ specialF t.2 = true
  ·rw [if_pos hs] at h
   have hg : spG t = true := by simp [spG, hs.1, hs.2]
   simp only [Option.bind_eq_bind, Option.bind_eq_some_iff] at h
   obtain ⟨r, hr, h⟩ := h
   have hD : rootD st t = r := by unfold rootD; rw [hr]; rfl
   obtain ⟨h1, h2⟩ := kindsS_ok h
   refine ⟨fun u hu hg => ?_, fun x => ?_⟩
   ·rcases List.mem_cons.1 hu with rfl | hu
    ·rw [hr, hD]
    ·exact h1 u hu hg
   ·have e2 : kof x ((r, 1) :: k0) = if teq x r then 1 else kof x k0 := by rw [kof]
    rw [h2 x, List.any_cons, e2]
    have e : spK st x t = teq x r := by unfold spK; rw [hg, hD]; rfl
    rw [e]
    by_cases h3 : teq x r = true
    ·simp [h3]
    ·simp only [Bool.not_eq_true] at h3
     rw [h3, Bool.false_or]
     rfl
  ·rw [if_neg hs] at h
   have hg : spG t = false := by
    unfold spG
    by_cases h0 : t.1 = 0
    ·simp [h0]; cases h4 : specialF t.2 with
     | false => rfl
     | true => exact absurd ⟨h0, h4⟩ hs
    ·simp [h0]
   obtain ⟨h1, h2⟩ := kindsS_ok h
   refine ⟨fun u hu hgu => ?_, fun x => ?_⟩
   ·rcases List.mem_cons.1 hu with rfl | hu
    ·rw [hg] at hgu; cases hgu
    ·exact h1 u hu hgu
   ·rw [h2 x, List.any_cons]
    have e : spK st x t = false := by unfold spK; rw [hg]; rfl
    rw [e]; rfl
theorem any_perm {α : Type} {f : α → Bool} {p l : List α} (h : p.Perm l) : p.any f = l.any f := by
 induction h with
 | nil => rfl
 | cons x _ ih => simp [ih]
 | swap x y l => simp [Bool.or_left_comm]
 | trans _ _ h1 h2 => exact h1.trans h2
theorem KindW.start {w : World} {b : Nat} (h : w.heap[b]? = some (.map #[] 0)) : KindW w b (fun _ => 0) := ⟨[], 0, h, fun _ => rfl⟩
theorem KindW.of {w : World} {b : Nat} {f g : Thing → Nat} (h : KindW w b f) (e : ∀ x, f x = g x) : KindW w b g := by
 have : f = g := funext e
 rw [← this]; exact h
theorem KindW.look {w : World} {b : Nat} {f : Thing → Nat} (h : KindW w b f) (t : Thing) {n : Nat} (hn : n = f t) : (Instr.lookup 103 (.map (some b)) (.agg #[.int .i64 t.1, .string t.2]) false).run Tryz.prog w = .ok (.int .i64 n) w := by
 obtain ⟨es, k, h1, h2⟩ := h
 have := run_klook (P := Tryz.prog) keyT Tryz.underlying103 (z := .int .i64 0) (w := w) (by simp [go_sem]) h1 t
 rw [hn, ← h2 t]
 exact this
theorem run_kind {b : Nat} {es : List (Ent Thing)} {k : Nat} {W : World} (hb : W.heap[b]? = some (.map (ents tval es) k)) (a : Thing) (n : Int) :
  (Instr.mapUpdate 103 (.map (some b)) (.agg #[.int .i64 a.1, .string a.2]) (.int .i64 n)).run Tryz.prog W = .ok () (mset W b (.map (ents tval (kput a (.int .i64 n) k es).1) (kput a (.int .i64 n) k es).2)) :=
 run_kput (P := Tryz.prog) keyT Tryz.underlying103 hb a (.int .i64 n)
theorem RangeS.entry {w : World} {r b n : Nat} {l p : List Thing} {t : Thing} (h : RangeS w r b l (p ++ [t]) n) :
  (Instr.entry (.pointer (some ⟨r, 0, none⟩))).run Tryz.prog w = .ok (.tuple #[.agg #[.int .i64 t.1, .string t.2], .agg #[]]) w := by
 obtain ⟨es, ps, qs, k, h1, h2, h3, h4, h5, rfl⟩ := h
 have hne : ps ≠ [] := fun e => by rw [e] at h5; simp at h5
 obtain ⟨qs', e, rfl⟩ : ∃ a e, ps = a ++ [e] := ⟨ps.dropLast, ps.getLast hne, (List.dropLast_concat_getLast hne).symm⟩
 have hk : e.key = t := by
  simp only [List.map_append, List.map_cons, List.map_nil] at h5
  exact (List.append_inj_right' h5 rfl |> fun h => by simpa using h.symm)
 have hem : e ∈ es := h4.subset (by simp)
 have hv : e.val = .agg #[] := by
  have : (e.key, e.val) ∈ es.map (fun e => (e.key, e.val)) := List.mem_map.2 ⟨e, hem, rfl⟩
  rw [h2.1] at this
  obtain ⟨x, _, hx⟩ := List.mem_map.1 this
  exact (Prod.mk.inj hx).2.symm
 have hn : ((ents tval es).toList.map (·.born)).Nodup := by rw [ents_born]; exact h2.2.1
 have h3' : w.heap[r]? = some (.mapIter (some b) k ((qs'.map (·.born)).toArray.push e.born) k) := by simpa using h3
 have := run_entry_at (P := Tryz.prog) w r b k _ _ k (⟨tval e.key, e.val, e.born⟩ : MapEntry) h3' h1 (by simp [ents]; exact ⟨e, hem, rfl, rfl, rfl⟩) hn
 rw [hv, hk] at this
 exact this
end Go.Proofs.YtkfillfkbhbbjaaGreatDoor
