/- node at other kinds, walked. Made by a program (check.py, walk.py). -/
import Derived.Test.YtkfillfkbhbbjaaGreatDoorNodL
set_option maxRecDepth 100000
set_option maxHeartbeats 4000000
set_option linter.unusedSimpArgs false
set_option linter.unusedVariables false
namespace Go.Proofs.YtkfillfkbhbbjaaGreatDoor
open Go.RowKit

theorem node_o {K : CKey} (hK : CFix K) {T : Nat → Prop} {ua : Option Addr} {uc : Nat} {st : NS} {w : World} (h : CK K T ua uc st w) (kd : Int) (tx : ByteArray) (fm : Nat) (na : Option Addr) (nc re im : Nat) (kids : List Node) {rec : NRec} {st1 st' : NS} (h4 : kd ≠ 4) (h5 : kd ≠ 5) (h19 : kd ≠ 19) (h20 : kd ≠ 20) (h11 : kd ≠ 11) (h41 : kd ≠ 41) (h32 : kd ≠ 32) (h33 : kd ≠ 33) (h34 : kd ≠ 34) (h35 : kd ≠ 35) (hkl : kids.length ≤ 1000000) (hkd : KidsR K.w0 (fun _ => True) kids (.slice na kids.length nc)) (hrec : NodeC K rec) (hpre : preF K.g st (.mk kd tx fm kids re im) = some st1) (hcf : kidsF rec kids st1 = some st') :
  Calls Tryz.prog 43 #[.pointer (some ⟨K.c, 0, none⟩), .agg #[.int .i64 kd, .string tx, .float .f64 fm, .slice na kids.length nc, .complex .f64 re im]] w fun r w' => ∃ T' ua' uc', r = .returned (.tuple #[]) ∧ CK K T' ua' uc' (st') w' ∧ CStep K T T' w w' := by
 have e19 : (kd == 19) = false := beq_false_of_ne h19
 have f19 : (kd != 19) = true := by simp [h19]
 have e20 : (kd == 20) = false := beq_false_of_ne h20
 have f20 : (kd != 20) = true := by simp [h20]
 have e11 : (kd == 11) = false := beq_false_of_ne h11
 have f11 : (kd != 11) = true := by simp [h11]
 have e41 : (kd == 41) = false := beq_false_of_ne h41
 have f41 : (kd != 41) = true := by simp [h41]
 have e32 : (kd == 32) = false := beq_false_of_ne h32
 have f32 : (kd != 32) = true := by simp [h32]
 have e33 : (kd == 33) = false := beq_false_of_ne h33
 have f33 : (kd != 33) = true := by simp [h33]
 have e34 : (kd == 34) = false := beq_false_of_ne h34
 have f34 : (kd != 34) = true := by simp [h34]
 have e35 : (kd == 35) = false := beq_false_of_ne h35
 have f35 : (kd != 35) = true := by simp [h35]
 have HKD := zh hkd; have HREC := zh hrec; have HCF := zh hcf
 have HNR : Hid (NodeR K.w0 (fun _ => True) (.mk kd tx fm kids re im) (.agg #[.int .i64 kd, .string tx, .float .f64 fm, .slice na kids.length nc, .complex .f64 re im])) := zh (.mk hkd)
 clear hkd hrec hcf h19 h20 h11 h41 h32 h33 h34 h35
 have HC0 := zh h; have HS0 := zh (CStep.refl K T w)
 clear h
 go_enter Tryz.func43, Tryz.ntmps43
 obtain ⟨l_c, l_mf, l_ms, l_mn⟩ := HC0.out.lt
 go_upto_block 0 with fail
 refine wp_at (fun W => Keeps [] w W ∧ W.heap[w.heap.size]? = some (.cells #[.int .i64 kd, .string tx, .float .f64 fm, .slice na kids.length nc, .complex .f64 re im] 50 (0, 0))) ⟨(by with_reducible repeat (first | exact k0 _ _ | refine kA ?_ _ | refine kD ?_ | refine kS ?_ (by simp) | refine kM ?_ (by simp))), (by simp only [hS, hA, hD, hM, World.size_setCell, World.size_drew, reduceIte, Option.map_some, Obj.put] <;> rfl)⟩ ?_
 rintro w1 ⟨Kw1, cw1_B⟩
 have ⟨n_c_B, n_B_c⟩ := zne l_c
 have ⟨n_mf_B, n_B_mf⟩ := zne l_mf
 have ⟨n_ms_B, n_B_ms⟩ := zne l_ms
 have ⟨n_mn_B, n_B_mn⟩ := zne l_mn
 have o_B : w.heap.size ≤ w.heap.size := Nat.le_refl _
 have off_B : Off K T (w.heap.size) := off_new HC0.out (Nat.le_refl _)
 have o0_B : K.w0.heap.size ≤ w.heap.size := Nat.le_trans HC0.out.keep.size (Nat.le_refl _)
 have HCw1 := zh (HC0.out.kp0 Kw1)
 have HSw1 := zh (HS0.out.loc Kw1 (by simp))
 have Rw1_B := zh cw1_B
 clear Kw1 cw1_B l_c l_mf l_ms l_mn HC0 HS0
 go_cut [] (fun W => ∃ T' ua' uc', CK K T' ua' uc' st1 W ∧ CStep K T T' w W ∧ W.heap[w.heap.size]? = some (.cells #[.int .i64 kd, .string tx, .float .f64 fm, .slice na kids.length nc, .complex .f64 re im] 50 (0, 0)) ∧ Off K T' (w.heap.size))
 case first =>
  clear HKD HREC HCF
  rw [preF_mk, if_neg h4, if_neg h5] at hpre
  have e4 : (kd == 4) = false := beq_false_of_ne h4
  have f4 : (kd != 4) = true := by simp [h4]
  have e5 : (kd == 5) = false := beq_false_of_ne h5
  have f5 : (kd != 5) = true := by simp [h5]
  by_cases h38 : kd = 38
  ·rw [if_pos h38] at hpre
   subst h38
   by_cases hfn : 0 < st.fn
   ·rw [if_pos (.inl hfn)] at hpre
    obtain rfl : faultF st re im 32 = st1 := by simpa using hpre
    have d0 : decide (0 < st.fn) = true := by simp [hfn]
    have d1 : (0 : Int) < (st.fn : Int) := by omega
    clear hpre
    obtain ⟨l_c, xc_0, xc_1, xc_2, xc_3, xc_4, xc_5, xc_6, xc_7, xc_8, xc_9, xc_10, yc_0, yc_1, yc_2, yc_3, yc_4, yc_5, yc_6, yc_7, yc_8, yc_9, yc_10⟩ := cf11 HCw1.out.row
    obtain ⟨-, l_mf, l_ms, l_mn⟩ := HCw1.out.lt
    obtain ⟨l_B, xB_0, xB_1, xB_2, xB_3, xB_4, yB_0, yB_1, yB_2, yB_3, yB_4⟩ := cf5 Rw1_B.out
    go_wp2_with fail
    clear l_c xc_0 xc_1 xc_2 xc_3 xc_4 xc_5 xc_6 xc_7 xc_8 xc_9 xc_10 yc_0 yc_1 yc_2 yc_3 yc_4 yc_5 yc_6 yc_7 yc_8 yc_9 yc_10 l_B xB_0 xB_1 xB_2 xB_3 xB_4 yB_0 yB_1 yB_2 yB_3 yB_4 l_mf l_ms l_mn
    refine (fault_any hK HCw1.out re im 32).mono ?_
    rintro r e21 ⟨T21, ua21, uc21, rfl, hc, hs⟩
    have off2_B := hs.off (h_lt Rw1_B.out) off_B
    have Re21_B := zh (hs.at Rw1_B.out off_B)
    have off_B' := off2_B
    have HCe21 := zh hc
    have HSe21 := zh (HSw1.out.trans hs)
    clear Rw1_B off_B HCw1 HSw1 hc hs
    have off_B := off_B'
    clear off_B' off2_B
    obtain ⟨l_c, l_mf, l_ms, l_mn⟩ := HCe21.out.lt
    have l_B := h_lt Re21_B.out
    go_wp2_with fail
    go_meet
    case rel => exact ⟨_, _, _, HCe21.out, HSe21.out, Re21_B.out, off_B⟩
   ·have hf0 : st.fn = 0 := by omega
    have d0 : decide (0 < st.fn) = false := by simp [hf0]
    by_cases h5 : st.rule = 5
    ·obtain rfl : st = st1 := by simpa [h5, hf0] using hpre
     have g5 : (st.rule == 5) = true := by simp [h5]
     have g5n : (st.rule != 5) = false := by simp [h5]
     clear hpre h5
     obtain ⟨l_c, xc_0, xc_1, xc_2, xc_3, xc_4, xc_5, xc_6, xc_7, xc_8, xc_9, xc_10, yc_0, yc_1, yc_2, yc_3, yc_4, yc_5, yc_6, yc_7, yc_8, yc_9, yc_10⟩ := cf11 HCw1.out.row
     obtain ⟨-, l_mf, l_ms, l_mn⟩ := HCw1.out.lt
     have l_B := h_lt Rw1_B.out
     go_wp2_with fail
     go_meet
     case rel => exact ⟨_, _, _, HCw1.out, HSw1.out, Rw1_B.out, off_B⟩
    have g5 : (st.rule == 5) = false := beq_false_of_ne h5
    have g5n : (st.rule != 5) = true := by simp [h5]
    by_cases h6 : st.rule = 6
    ·obtain rfl : st = st1 := by simpa [h6, hf0] using hpre
     have g6 : (st.rule == 6) = true := by simp [h6]
     have g6n : (st.rule != 6) = false := by simp [h6]
     clear hpre h6 h5
     obtain ⟨l_c, xc_0, xc_1, xc_2, xc_3, xc_4, xc_5, xc_6, xc_7, xc_8, xc_9, xc_10, yc_0, yc_1, yc_2, yc_3, yc_4, yc_5, yc_6, yc_7, yc_8, yc_9, yc_10⟩ := cf11 HCw1.out.row
     obtain ⟨-, l_mf, l_ms, l_mn⟩ := HCw1.out.lt
     have l_B := h_lt Rw1_B.out
     go_wp2_with fail
     go_meet
     case rel => exact ⟨_, _, _, HCw1.out, HSw1.out, Rw1_B.out, off_B⟩
    have g6 : (st.rule == 6) = false := beq_false_of_ne h6
    have g6n : (st.rule != 6) = true := by simp [h6]
    by_cases h7 : st.rule = 7
    ·obtain rfl : st = st1 := by simpa [h7, hf0] using hpre
     have g7 : (st.rule == 7) = true := by simp [h7]
     have g7n : (st.rule != 7) = false := by simp [h7]
     clear hpre h7 h6 h5
     obtain ⟨l_c, xc_0, xc_1, xc_2, xc_3, xc_4, xc_5, xc_6, xc_7, xc_8, xc_9, xc_10, yc_0, yc_1, yc_2, yc_3, yc_4, yc_5, yc_6, yc_7, yc_8, yc_9, yc_10⟩ := cf11 HCw1.out.row
     obtain ⟨-, l_mf, l_ms, l_mn⟩ := HCw1.out.lt
     have l_B := h_lt Rw1_B.out
     go_wp2_with fail
     go_meet
     case rel => exact ⟨_, _, _, HCw1.out, HSw1.out, Rw1_B.out, off_B⟩
    have g7 : (st.rule == 7) = false := beq_false_of_ne h7
    have g7n : (st.rule != 7) = true := by simp [h7]
    rw [if_pos (.inr ⟨h5, h6, h7⟩)] at hpre
    obtain rfl : faultF st re im 32 = st1 := by simpa using hpre
    clear hpre h5 h6 h7
    obtain ⟨l_c, xc_0, xc_1, xc_2, xc_3, xc_4, xc_5, xc_6, xc_7, xc_8, xc_9, xc_10, yc_0, yc_1, yc_2, yc_3, yc_4, yc_5, yc_6, yc_7, yc_8, yc_9, yc_10⟩ := cf11 HCw1.out.row
    obtain ⟨-, l_mf, l_ms, l_mn⟩ := HCw1.out.lt
    obtain ⟨l_B, xB_0, xB_1, xB_2, xB_3, xB_4, yB_0, yB_1, yB_2, yB_3, yB_4⟩ := cf5 Rw1_B.out
    go_wp2_with fail
    clear l_c xc_0 xc_1 xc_2 xc_3 xc_4 xc_5 xc_6 xc_7 xc_8 xc_9 xc_10 yc_0 yc_1 yc_2 yc_3 yc_4 yc_5 yc_6 yc_7 yc_8 yc_9 yc_10 l_B xB_0 xB_1 xB_2 xB_3 xB_4 yB_0 yB_1 yB_2 yB_3 yB_4 l_mf l_ms l_mn
    refine (fault_any hK HCw1.out re im 32).mono ?_
    rintro r e21 ⟨T21, ua21, uc21, rfl, hc, hs⟩
    have off2_B := hs.off (h_lt Rw1_B.out) off_B
    have Re21_B := zh (hs.at Rw1_B.out off_B)
    have off_B' := off2_B
    have HCe21 := zh hc
    have HSe21 := zh (HSw1.out.trans hs)
    clear Rw1_B off_B HCw1 HSw1 hc hs
    have off_B := off_B'
    clear off_B' off2_B
    obtain ⟨l_c, l_mf, l_ms, l_mn⟩ := HCe21.out.lt
    have l_B := h_lt Re21_B.out
    go_wp2_with fail
    go_meet
    case rel => exact ⟨_, _, _, HCe21.out, HSe21.out, Re21_B.out, off_B⟩
  rw [if_neg h38] at hpre
  have e38 : (kd == 38) = false := beq_false_of_ne h38
  have f38 : (kd != 38) = true := by simp [h38]
  by_cases h40 : kd = 40
  ·rw [if_pos h40] at hpre
   subst h40
   by_cases hfn : st.fn = 0
   ·rw [if_pos hfn] at hpre
    obtain rfl : faultF st re im 32 = st1 := by simpa using hpre
    have d0 : ((st.fn : Int) == 0) = true := by simp [hfn]
    have d1 : (st.fn == 0) = true := by simp [hfn]
    clear hpre hfn
    obtain ⟨l_c, xc_0, xc_1, xc_2, xc_3, xc_4, xc_5, xc_6, xc_7, xc_8, xc_9, xc_10, yc_0, yc_1, yc_2, yc_3, yc_4, yc_5, yc_6, yc_7, yc_8, yc_9, yc_10⟩ := cf11 HCw1.out.row
    obtain ⟨-, l_mf, l_ms, l_mn⟩ := HCw1.out.lt
    obtain ⟨l_B, xB_0, xB_1, xB_2, xB_3, xB_4, yB_0, yB_1, yB_2, yB_3, yB_4⟩ := cf5 Rw1_B.out
    go_wp2_with fail
    clear l_c xc_0 xc_1 xc_2 xc_3 xc_4 xc_5 xc_6 xc_7 xc_8 xc_9 xc_10 yc_0 yc_1 yc_2 yc_3 yc_4 yc_5 yc_6 yc_7 yc_8 yc_9 yc_10 l_B xB_0 xB_1 xB_2 xB_3 xB_4 yB_0 yB_1 yB_2 yB_3 yB_4 l_mf l_ms l_mn
    refine (fault_any hK HCw1.out re im 32).mono ?_
    rintro r e21 ⟨T21, ua21, uc21, rfl, hc, hs⟩
    have off2_B := hs.off (h_lt Rw1_B.out) off_B
    have Re21_B := zh (hs.at Rw1_B.out off_B)
    have off_B' := off2_B
    have HCe21 := zh hc
    have HSe21 := zh (HSw1.out.trans hs)
    clear Rw1_B off_B HCw1 HSw1 hc hs
    have off_B := off_B'
    clear off_B' off2_B
    obtain ⟨l_c, l_mf, l_ms, l_mn⟩ := HCe21.out.lt
    have l_B := h_lt Re21_B.out
    go_wp2_with fail
    go_meet
    case rel => exact ⟨_, _, _, HCe21.out, HSe21.out, Re21_B.out, off_B⟩
   ·rw [if_neg hfn] at hpre
    obtain rfl : st = st1 := by simpa using hpre
    have d0 : ((st.fn : Int) == 0) = false := by simp; omega
    have d1 : (st.fn == 0) = false := by simp [hfn]
    clear hpre
    obtain ⟨l_c, xc_0, xc_1, xc_2, xc_3, xc_4, xc_5, xc_6, xc_7, xc_8, xc_9, xc_10, yc_0, yc_1, yc_2, yc_3, yc_4, yc_5, yc_6, yc_7, yc_8, yc_9, yc_10⟩ := cf11 HCw1.out.row
    obtain ⟨-, l_mf, l_ms, l_mn⟩ := HCw1.out.lt
    have l_B := h_lt Rw1_B.out
    go_wp2_with fail
    go_meet
    case rel => exact ⟨_, _, _, HCw1.out, HSw1.out, Rw1_B.out, off_B⟩
  rw [if_neg h40] at hpre
  have e40 : (kd == 40) = false := beq_false_of_ne h40
  have f40 : (kd != 40) = true := by simp [h40]
  by_cases h36 : kd = 36
  ·subst h36
   rw [if_pos (.inl rfl)] at hpre
   by_cases hfn : st.loops = 0
   ·rw [if_pos hfn] at hpre
    obtain rfl : faultF st re im 32 = st1 := by simpa using hpre
    have d0 : (st.loops == 0) = true := by simp [hfn]
    clear hpre hfn
    obtain ⟨l_c, xc_0, xc_1, xc_2, xc_3, xc_4, xc_5, xc_6, xc_7, xc_8, xc_9, xc_10, yc_0, yc_1, yc_2, yc_3, yc_4, yc_5, yc_6, yc_7, yc_8, yc_9, yc_10⟩ := cf11 HCw1.out.row
    obtain ⟨-, l_mf, l_ms, l_mn⟩ := HCw1.out.lt
    obtain ⟨l_B, xB_0, xB_1, xB_2, xB_3, xB_4, yB_0, yB_1, yB_2, yB_3, yB_4⟩ := cf5 Rw1_B.out
    go_wp2_with fail
    clear l_c xc_0 xc_1 xc_2 xc_3 xc_4 xc_5 xc_6 xc_7 xc_8 xc_9 xc_10 yc_0 yc_1 yc_2 yc_3 yc_4 yc_5 yc_6 yc_7 yc_8 yc_9 yc_10 l_B xB_0 xB_1 xB_2 xB_3 xB_4 yB_0 yB_1 yB_2 yB_3 yB_4 l_mf l_ms l_mn
    refine (fault_any hK HCw1.out re im 32).mono ?_
    rintro r e21 ⟨T21, ua21, uc21, rfl, hc, hs⟩
    have off2_B := hs.off (h_lt Rw1_B.out) off_B
    have Re21_B := zh (hs.at Rw1_B.out off_B)
    have off_B' := off2_B
    have HCe21 := zh hc
    have HSe21 := zh (HSw1.out.trans hs)
    clear Rw1_B off_B HCw1 HSw1 hc hs
    have off_B := off_B'
    clear off_B' off2_B
    obtain ⟨l_c, l_mf, l_ms, l_mn⟩ := HCe21.out.lt
    have l_B := h_lt Re21_B.out
    go_wp2_with fail
    go_meet
    case rel => exact ⟨_, _, _, HCe21.out, HSe21.out, Re21_B.out, off_B⟩
   ·rw [if_neg hfn] at hpre
    obtain rfl : st = st1 := by simpa using hpre
    have d0 : (st.loops == 0) = false := beq_false_of_ne hfn
    clear hpre
    obtain ⟨l_c, xc_0, xc_1, xc_2, xc_3, xc_4, xc_5, xc_6, xc_7, xc_8, xc_9, xc_10, yc_0, yc_1, yc_2, yc_3, yc_4, yc_5, yc_6, yc_7, yc_8, yc_9, yc_10⟩ := cf11 HCw1.out.row
    obtain ⟨-, l_mf, l_ms, l_mn⟩ := HCw1.out.lt
    have l_B := h_lt Rw1_B.out
    go_wp2_with fail
    go_meet
    case rel => exact ⟨_, _, _, HCw1.out, HSw1.out, Rw1_B.out, off_B⟩
  by_cases h37 : kd = 37
  ·subst h37
   rw [if_pos (.inr rfl)] at hpre
   by_cases hfn : st.loops = 0
   ·rw [if_pos hfn] at hpre
    obtain rfl : faultF st re im 32 = st1 := by simpa using hpre
    have d0 : (st.loops == 0) = true := by simp [hfn]
    clear hpre hfn
    obtain ⟨l_c, xc_0, xc_1, xc_2, xc_3, xc_4, xc_5, xc_6, xc_7, xc_8, xc_9, xc_10, yc_0, yc_1, yc_2, yc_3, yc_4, yc_5, yc_6, yc_7, yc_8, yc_9, yc_10⟩ := cf11 HCw1.out.row
    obtain ⟨-, l_mf, l_ms, l_mn⟩ := HCw1.out.lt
    obtain ⟨l_B, xB_0, xB_1, xB_2, xB_3, xB_4, yB_0, yB_1, yB_2, yB_3, yB_4⟩ := cf5 Rw1_B.out
    go_wp2_with fail
    clear l_c xc_0 xc_1 xc_2 xc_3 xc_4 xc_5 xc_6 xc_7 xc_8 xc_9 xc_10 yc_0 yc_1 yc_2 yc_3 yc_4 yc_5 yc_6 yc_7 yc_8 yc_9 yc_10 l_B xB_0 xB_1 xB_2 xB_3 xB_4 yB_0 yB_1 yB_2 yB_3 yB_4 l_mf l_ms l_mn
    refine (fault_any hK HCw1.out re im 32).mono ?_
    rintro r e21 ⟨T21, ua21, uc21, rfl, hc, hs⟩
    have off2_B := hs.off (h_lt Rw1_B.out) off_B
    have Re21_B := zh (hs.at Rw1_B.out off_B)
    have off_B' := off2_B
    have HCe21 := zh hc
    have HSe21 := zh (HSw1.out.trans hs)
    clear Rw1_B off_B HCw1 HSw1 hc hs
    have off_B := off_B'
    clear off_B' off2_B
    obtain ⟨l_c, l_mf, l_ms, l_mn⟩ := HCe21.out.lt
    have l_B := h_lt Re21_B.out
    go_wp2_with fail
    go_meet
    case rel => exact ⟨_, _, _, HCe21.out, HSe21.out, Re21_B.out, off_B⟩
   ·rw [if_neg hfn] at hpre
    obtain rfl : st = st1 := by simpa using hpre
    have d0 : (st.loops == 0) = false := beq_false_of_ne hfn
    clear hpre
    obtain ⟨l_c, xc_0, xc_1, xc_2, xc_3, xc_4, xc_5, xc_6, xc_7, xc_8, xc_9, xc_10, yc_0, yc_1, yc_2, yc_3, yc_4, yc_5, yc_6, yc_7, yc_8, yc_9, yc_10⟩ := cf11 HCw1.out.row
    obtain ⟨-, l_mf, l_ms, l_mn⟩ := HCw1.out.lt
    have l_B := h_lt Rw1_B.out
    go_wp2_with fail
    go_meet
    case rel => exact ⟨_, _, _, HCw1.out, HSw1.out, Rw1_B.out, off_B⟩
  rw [if_neg (by simp [h36, h37])] at hpre
  obtain rfl : st = st1 := by simpa using hpre
  clear hpre
  have e36 : (kd == 36) = false := beq_false_of_ne h36
  have f36 : (kd != 36) = true := by simp [h36]
  have e37 : (kd == 37) = false := beq_false_of_ne h37
  have f37 : (kd != 37) = true := by simp [h37]
  obtain ⟨l_c, xc_0, xc_1, xc_2, xc_3, xc_4, xc_5, xc_6, xc_7, xc_8, xc_9, xc_10, yc_0, yc_1, yc_2, yc_3, yc_4, yc_5, yc_6, yc_7, yc_8, yc_9, yc_10⟩ := cf11 HCw1.out.row
  obtain ⟨-, l_mf, l_ms, l_mn⟩ := HCw1.out.lt
  have l_B := h_lt Rw1_B.out
  go_wp2_with fail
  go_meet
  case rel => exact ⟨_, _, _, HCw1.out, HSw1.out, Rw1_B.out, off_B⟩
 case rest =>
  obtain ⟨T1, ua1, uc1, hc, hs, hB, off_B⟩ := hcut
  generalize wc = wl at *
  have HCl := zh hc; have HSl := zh hs; have RBl := zh hB
  clear hc hs hB hpre HNR HCw1 HSw1 Rw1_B
  obtain ⟨l_c, l_mf, l_ms, l_mn⟩ := HCl.out.lt
  obtain ⟨l_B, xB_0, xB_1, xB_2, xB_3, xB_4, yB_0, yB_1, yB_2, yB_3, yB_4⟩ := cf5 RBl.out
  go_wp2_with fail
  clear l_c l_B xB_0 xB_1 xB_2 xB_3 xB_4 yB_0 yB_1 yB_2 yB_3 yB_4 l_mf l_ms l_mn
  go_loopg [144] (kids.length + 1) (fun g j wr => KidLoop K rec kids st' T w (w.heap.size) (.cells #[.int .i64 kd, .string tx, .float .f64 fm, .slice na kids.length nc, .complex .f64 re im] 50 (0, 0)) g j wr)
  case atStart => exact ⟨0, rfl, Nat.zero_le _, rfl, _, _, _, _, HCF.out, HCl.out, HSl.out, RBl.out, off_B⟩
  case round =>
   obtain ⟨k, rfl, hk1, hk2, st2, T2, ua2, uc2, hcf, hc, hs, hB, off_B⟩ := hrel
   have HCr := zh hc; have HSr := zh hs; have RB := zh hB
   clear hc hs hB
   by_cases hlt : k < kids.length
   ·obtain ⟨g3, o3, fm3, na3, nc3, hna, kc0, kc1, kc2, kc3, kc4, hkn⟩ := CK.kid HCr.out HKD.out hlt
    subst hna
    have lg3 : g3 < wr.heap.size := lt_cell kc0
    rw [List.drop_eq_getElem_cons hlt, kidsF] at hcf
    generalize kids[k] = kk at *
    simp only [Option.bind_eq_bind, Option.bind_eq_some_iff] at hcf
    obtain ⟨s3, hr, hcf⟩ := hcf
    cases gk with
    | zero => omega
    | succ f =>
     obtain ⟨l_c, l_mf, l_ms, l_mn⟩ := HCr.out.lt
     obtain ⟨l_B, xB_0, xB_1, xB_2, xB_3, xB_4, yB_0, yB_1, yB_2, yB_3, yB_4⟩ := cf5 RB.out
     go_wp2_with fail
     refine calls_at (fun W => Keeps [] wr W ∧ W.heap[wr.heap.size]? = some (.cells #[.int .i64 kk.kind, .string kk.name, .float .f64 fm3, .slice na3 kk.kids.length nc3, .complex .f64 kk.re kk.im] 50 (0, 0))) ⟨(by with_reducible repeat (first | exact k0 _ _ | refine kA ?_ _ | refine kD ?_ | refine kS ?_ (by simp) | refine kM ?_ (by simp))), (by simp only [hS, hA, hD, hM, World.size_setCell, World.size_drew, reduceIte, Option.map_some, Obj.put] <;> rfl)⟩ ?_
     rintro w51 ⟨Kw51, cw51_Kd⟩
     have ⟨n_c_Kd, n_Kd_c⟩ := zne l_c
     have ⟨n_mf_Kd, n_Kd_mf⟩ := zne l_mf
     have ⟨n_ms_Kd, n_Kd_ms⟩ := zne l_ms
     have ⟨n_mn_Kd, n_Kd_mn⟩ := zne l_mn
     have ⟨n_B_Kd, n_Kd_B⟩ := zne l_B
     have o_Kd : w.heap.size ≤ wr.heap.size := HSr.out.size
     have off_Kd : Off K T2 (wr.heap.size) := off_new HCr.out (Nat.le_refl _)
     have o0_Kd : K.w0.heap.size ≤ wr.heap.size := Nat.le_trans HCr.out.keep.size (Nat.le_refl _)
     have Rw51_B := zh (Kw51.at RB.out (by simp))
     have HCw51 := zh (HCr.out.kp0 Kw51)
     have HSw51 := zh (HSr.out.loc Kw51 (by simp))
     have Rw51_Kd := zh cw51_Kd
     clear Kw51 cw51_Kd l_c l_B xB_0 xB_1 xB_2 xB_3 xB_4 yB_0 yB_1 yB_2 yB_3 yB_4 l_mf l_ms l_mn RB HCr HSr
     refine (HREC.out _ _ _ _ hr hkn _ _ _ _ HCw51.out).mono ?_
     rintro r e52 ⟨T52, ua52, uc52, rfl, hc, hs⟩
     have off2_B := hs.off (h_lt Rw51_B.out) off_B
     have Re52_B := zh (hs.at Rw51_B.out off_B)
     have off2_Kd := hs.off (h_lt Rw51_Kd.out) off_Kd
     have Re52_Kd := zh (hs.at Rw51_Kd.out off_Kd)
     have off_B' := off2_B
     have off_Kd' := off2_Kd
     have HCe52 := zh hc
     have HSe52 := zh (HSw51.out.trans hs)
     clear Rw51_B off_B Rw51_Kd off_Kd HCw51 HSw51 hc hs
     have off_B := off_B'
     clear off_B' off2_B
     have off_Kd := off_Kd'
     clear off_Kd' off2_Kd
     obtain ⟨l_c, l_mf, l_ms, l_mn⟩ := HCe52.out.lt
     have l_B := h_lt Re52_B.out
     have l_Kd := h_lt Re52_Kd.out
     go_wp2_with fail
     go_roundg f
     case measure => omega
     case rel =>
      exact ⟨k + 1, by first | rfl | (simp; done) | (simp; omega), by omega, by omega, _, _, _, _, hcf, HCe52.out, HSe52.out, Re52_B.out, off_B⟩
   ·have hke : k = kids.length := by omega
    subst hke
    rw [List.drop_length, kidsF] at hcf
    obtain rfl : st2 = st' := by simpa using hcf
    clear hcf
    obtain ⟨l_c, l_mf, l_ms, l_mn⟩ := HCr.out.lt
    have l_B := h_lt RB.out
    go_wp2_with fail
    refine end_at (v := .tuple #[]) (fun W => Keeps [] wr W) (by with_reducible repeat (first | exact k0 _ _ | refine kA ?_ _ | refine kD ?_ | refine kS ?_ (by simp) | refine kM ?_ (by simp))) (fun w51 hW => ?_) rfl (fun w51 hW => ?_)
    ·have Kw51 : Keeps [] wr w51 := hW
     simp [results, Tryz.results43, go_sem]
    ·have Kw51 : Keeps [] wr w51 := hW
     have Rw51_B := zh (Kw51.at RB.out (by simp))
     have HCw51 := zh (HCr.out.kp0 Kw51)
     have HSw51 := zh (HSr.out.loc Kw51 (by simp))
     clear Kw51 l_c l_B l_mf l_ms l_mn RB HCr HSr
     exact ⟨_, _, _, rfl, HCw51.out, HSw51.out⟩
end Go.Proofs.YtkfillfkbhbbjaaGreatDoor
