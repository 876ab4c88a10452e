/- call, walked where nothing comes of its kids. Made by a program (check.py, walk.py). -/
import Derived.Test.YtkfillfkbhbbjaaGreatDoorKinL
set_option maxRecDepth 100000
set_option maxHeartbeats 4000000
set_option linter.unusedSimpArgs false
set_option linter.unusedVariables false
namespace Go.Proofs.YtkfillfkbhbbjaaGreatDoor
open Go.RowKit
theorem call_0 {K : CKey} (hK : CFix K) {T : Nat → Prop} {ua : Option Addr} {uc : Nat} {st : NS} {w : World} (h : CK K T ua uc st w) (kd : Int) (tx : ByteArray) (fm : Nat) (na : Option Addr) (nc re im : Nat) (kids : List Node) {fn : Nat} (hfn : fn = flook K.g tx) (h0 : fn = 0) :
  Calls Tryz.prog 76 #[.pointer (some ⟨K.c, 0, none⟩), .agg #[.int .i64 kd, .string tx, .float .f64 fm, .slice na kids.length nc, .complex .f64 re im]] w fun r w' => ∃ T' ua' uc', r = .returned (.tuple #[]) ∧ CK K T' ua' uc' (faultF st re im 28) w' ∧ CStep K T T' w w' := by
 have d5 : ((fn : Int) == 0) = true := by simp; omega
 have d6 : (fn == 0) = true := by simp; omega
 have HC0 := zh h; have HS0 := zh (CStep.refl K T w); have HFN := zh hfn
 clear h hfn h0
 go_enter Tryz.func76, Tryz.ntmps76
 obtain ⟨l_c, l_mf, l_ms, l_mn⟩ := HC0.out.lt
 go_upto_region 1 with fail
 refine wp_at (fun W => Keeps [] w W ∧ W.heap[w.heap.size]? = some (.cells #[.int .i64 kd, .string tx, .float .f64 fm, .slice na kids.length nc, .complex .f64 re im] 50 (0, 0))) ⟨(by with_reducible repeat (first | exact k0 _ _ | refine kA ?_ _ | refine kD ?_ | refine kS ?_ (by simp) | refine kM ?_ (by simp))), (by simp only [hS, hA, hD, hM, World.size_setCell, World.size_drew, reduceIte, Option.map_some, Obj.put] <;> rfl)⟩ ?_
 rintro w1 ⟨Kw1, cw1_B⟩
 have ⟨n_c_B, n_B_c⟩ := zne l_c
 have ⟨n_mf_B, n_B_mf⟩ := zne l_mf
 have ⟨n_ms_B, n_B_ms⟩ := zne l_ms
 have ⟨n_mn_B, n_B_mn⟩ := zne l_mn
 have o_B : w.heap.size ≤ w.heap.size := Nat.le_refl _
 have off_B : Off K T (w.heap.size) := off_new HC0.out (Nat.le_refl _)
 have o0_B : K.w0.heap.size ≤ w.heap.size := Nat.le_trans HC0.out.keep.size (Nat.le_refl _)
 have HCw1 := zh (HC0.out.kp0 Kw1)
 have HSw1 := zh (HS0.out.loc Kw1 (by simp))
 have Rw1_B := zh cw1_B
 clear Kw1 cw1_B l_c l_mf l_ms l_mn HC0 HS0
 obtain ⟨l_c, xc_0, xc_1, xc_2, xc_3, xc_4, xc_5, xc_6, xc_7, xc_8, xc_9, xc_10, yc_0, yc_1, yc_2, yc_3, yc_4, yc_5, yc_6, yc_7, yc_8, yc_9, yc_10⟩ := cf11 HCw1.out.row
 obtain ⟨-, l_mf, l_ms, l_mn⟩ := HCw1.out.lt
 obtain ⟨l_B, xB_0, xB_1, xB_2, xB_3, xB_4, yB_0, yB_1, yB_2, yB_3, yB_4⟩ := cf5 Rw1_B.out
 have hlk := HCw1.out.flook' tx (v := (fn : Int)) (by rw [HFN.out])
 go_cut [4] (fun s4 W => s4 = .int .i64 fn ∧ Keeps [] w1 W)
 case first =>
  go_region
  all_goals
   go_wp2_with fail
   go_meet
   case rel => exact ⟨rfl, (by with_reducible repeat (first | exact k0 _ _ | refine kA ?_ _ | refine kD ?_ | refine kS ?_ (by simp) | refine kM ?_ (by simp)))⟩
 case rest =>
  obtain ⟨rfl, hk⟩ := hcut
  generalize wc = w2 at *
  have Rw2_B := zh (hk.at Rw1_B.out (by simp))
  have HCw2 := zh (HCw1.out.kp0 hk)
  have HSw2 := zh (HSw1.out.loc hk (by simp))
  clear hk Rw1_B HCw1 HSw1 l_c xc_0 xc_1 xc_2 xc_3 xc_4 xc_5 xc_6 xc_7 xc_8 xc_9 xc_10 yc_0 yc_1 yc_2 yc_3 yc_4 yc_5 yc_6 yc_7 yc_8 yc_9 yc_10 l_B xB_0 xB_1 xB_2 xB_3 xB_4 yB_0 yB_1 yB_2 yB_3 yB_4 l_mf l_ms l_mn
  obtain ⟨l_c, l_mf, l_ms, l_mn⟩ := HCw2.out.lt
  obtain ⟨l_B, xB_0, xB_1, xB_2, xB_3, xB_4, yB_0, yB_1, yB_2, yB_3, yB_4⟩ := cf5 Rw2_B.out
  go_wp2_with fail
  clear l_c l_B xB_0 xB_1 xB_2 xB_3 xB_4 yB_0 yB_1 yB_2 yB_3 yB_4 l_mf l_ms l_mn
  refine (fault_any hK HCw2.out re im 28).mono ?_
  rintro r e3 ⟨T3, ua3, uc3, rfl, hc, hs⟩
  have off2_B := hs.off (h_lt Rw2_B.out) off_B
  have Re3_B := zh (hs.at Rw2_B.out off_B)
  have off_B' := off2_B
  have HCe3 := zh hc
  have HSe3 := zh (HSw2.out.trans hs)
  clear Rw2_B off_B HCw2 HSw2 hc hs
  have off_B := off_B'
  clear off_B' off2_B
  obtain ⟨l_c, l_mf, l_ms, l_mn⟩ := HCe3.out.lt
  have l_B := h_lt Re3_B.out
  go_wp2_with fail
  refine ret_at (v := .tuple #[]) (fun W => Keeps [] e3 W) (by with_reducible repeat (first | exact k0 _ _ | refine kA ?_ _ | refine kD ?_ | refine kS ?_ (by simp) | refine kM ?_ (by simp))) (fun w4 hW => ?_) rfl (fun w4 hW => ?_)
  ·have Kw4 : Keeps [] e3 w4 := hW
   simp [results, Tryz.results76, go_sem]
  ·have Kw4 : Keeps [] e3 w4 := hW
   have Rw4_B := zh (Kw4.at Re3_B.out (by simp))
   have HCw4 := zh (HCe3.out.kp0 Kw4)
   have HSw4 := zh (HSe3.out.loc Kw4 (by simp))
   clear Kw4 l_c l_B l_mf l_ms l_mn Re3_B HCe3 HSe3
   exact ⟨_, _, _, rfl, HCw4.out, HSw4.out⟩

theorem call_1 {K : CKey} (hK : CFix K) {T : Nat → Prop} {ua : Option Addr} {uc : Nat} {st : NS} {w : World} (h : CK K T ua uc st w) (kd : Int) (tx : ByteArray) (fm : Nat) (na : Option Addr) (nc re im : Nat) (kids : List Node) {fn i : Nat} (hfn : fn = flook K.g tx) (hfi : fn = i + 1) (hi : i < K.g.funcs.length) (hm : K.g.funcs[i].params.length < kids.length) :
  Calls Tryz.prog 76 #[.pointer (some ⟨K.c, 0, none⟩), .agg #[.int .i64 kd, .string tx, .float .f64 fm, .slice na kids.length nc, .complex .f64 re im]] w fun r w' => ∃ T' ua' uc', r = .returned (.tuple #[]) ∧ CK K T' ua' uc' (faultF st re im 31) w' ∧ CStep K T T' w w' := by
 have d1 : (0 : Int) < (fn : Int) := by omega
 have d0 : decide (0 < fn) = true := by simp; omega
 have d2 : (fn : Int) - 1 = (i : Int) := by omega
 have d3 : (i : Int) < (K.g.funcs.length : Int) := by omega
 have d4 : (fn : Int) ≤ 1000000 := by have := hK.small; omega
 have d5 : ((fn : Int) == 0) = false := by simp; omega
 have d6 : (fn == 0) = false := by simp; omega
 have d7 : ¬ fn = 0 := by omega
 have d8 : (K.g.funcs[i].params.length : Int) < (kids.length : Int) := by omega
 have HC0 := zh h; have HS0 := zh (CStep.refl K T w); have HFN := zh hfn; have HFI := zh hfi
 clear h hfn hfi
 go_enter Tryz.func76, Tryz.ntmps76
 obtain ⟨l_c, l_mf, l_ms, l_mn⟩ := HC0.out.lt
 go_upto_region 1 with fail
 refine wp_at (fun W => Keeps [] w W ∧ W.heap[w.heap.size]? = some (.cells #[.int .i64 kd, .string tx, .float .f64 fm, .slice na kids.length nc, .complex .f64 re im] 50 (0, 0))) ⟨(by with_reducible repeat (first | exact k0 _ _ | refine kA ?_ _ | refine kD ?_ | refine kS ?_ (by simp) | refine kM ?_ (by simp))), (by simp only [hS, hA, hD, hM, World.size_setCell, World.size_drew, reduceIte, Option.map_some, Obj.put] <;> rfl)⟩ ?_
 rintro w1 ⟨Kw1, cw1_B⟩
 have ⟨n_c_B, n_B_c⟩ := zne l_c
 have ⟨n_mf_B, n_B_mf⟩ := zne l_mf
 have ⟨n_ms_B, n_B_ms⟩ := zne l_ms
 have ⟨n_mn_B, n_B_mn⟩ := zne l_mn
 have o_B : w.heap.size ≤ w.heap.size := Nat.le_refl _
 have off_B : Off K T (w.heap.size) := off_new HC0.out (Nat.le_refl _)
 have o0_B : K.w0.heap.size ≤ w.heap.size := Nat.le_trans HC0.out.keep.size (Nat.le_refl _)
 have HCw1 := zh (HC0.out.kp0 Kw1)
 have HSw1 := zh (HS0.out.loc Kw1 (by simp))
 have Rw1_B := zh cw1_B
 clear Kw1 cw1_B l_c l_mf l_ms l_mn HC0 HS0
 obtain ⟨l_c, xc_0, xc_1, xc_2, xc_3, xc_4, xc_5, xc_6, xc_7, xc_8, xc_9, xc_10, yc_0, yc_1, yc_2, yc_3, yc_4, yc_5, yc_6, yc_7, yc_8, yc_9, yc_10⟩ := cf11 HCw1.out.row
 obtain ⟨-, l_mf, l_ms, l_mn⟩ := HCw1.out.lt
 obtain ⟨l_B, xB_0, xB_1, xB_2, xB_3, xB_4, yB_0, yB_1, yB_2, yB_3, yB_4⟩ := cf5 Rw1_B.out
 have hlk := HCw1.out.flook' tx (v := (fn : Int)) (by rw [HFN.out])
 go_cut [4] (fun s4 W => s4 = .int .i64 fn ∧ Keeps [] w1 W)
 case first =>
  go_region
  all_goals
   go_wp2_with fail
   go_meet
   case rel => exact ⟨rfl, (by with_reducible repeat (first | exact k0 _ _ | refine kA ?_ _ | refine kD ?_ | refine kS ?_ (by simp) | refine kM ?_ (by simp)))⟩
 case rest =>
  obtain ⟨rfl, hk⟩ := hcut
  generalize wc = w2 at *
  have Rw2_B := zh (hk.at Rw1_B.out (by simp))
  have HCw2 := zh (HCw1.out.kp0 hk)
  have HSw2 := zh (HSw1.out.loc hk (by simp))
  clear hk Rw1_B HCw1 HSw1 l_c xc_0 xc_1 xc_2 xc_3 xc_4 xc_5 xc_6 xc_7 xc_8 xc_9 xc_10 yc_0 yc_1 yc_2 yc_3 yc_4 yc_5 yc_6 yc_7 yc_8 yc_9 yc_10 l_B xB_0 xB_1 xB_2 xB_3 xB_4 yB_0 yB_1 yB_2 yB_3 yB_4 l_mf l_ms l_mn
  obtain ⟨l_c, xc_0, xc_1, xc_2, xc_3, xc_4, xc_5, xc_6, xc_7, xc_8, xc_9, xc_10, yc_0, yc_1, yc_2, yc_3, yc_4, yc_5, yc_6, yc_7, yc_8, yc_9, yc_10⟩ := cf11 HCw2.out.row
  obtain ⟨-, l_mf, l_ms, l_mn⟩ := HCw2.out.lt
  obtain ⟨l_B, xB_0, xB_1, xB_2, xB_3, xB_4, yB_0, yB_1, yB_2, yB_3, yB_4⟩ := cf5 Rw2_B.out
  obtain ⟨g, o, pa, pc, b0, b1, b2, b3, b4, hfa, -, hcp, -, -, -, -, -, -, hsp, -⟩ := CK.func hK HCw2.out hi
  have HSP := zh hsp; have HFA := zh hfa
  clear hsp
  rw [hfa] at xc_1
  clear hfa
  go_wp2_with fail
  clear l_c xc_0 xc_1 xc_2 xc_3 xc_4 xc_5 xc_6 xc_7 xc_8 xc_9 xc_10 yc_0 yc_1 yc_2 yc_3 yc_4 yc_5 yc_6 yc_7 yc_8 yc_9 yc_10 l_B xB_0 xB_1 xB_2 xB_3 xB_4 yB_0 yB_1 yB_2 yB_3 yB_4 l_mf l_ms l_mn
  refine (fault_any hK HCw2.out re im 31).mono ?_
  rintro r e3 ⟨T3, ua3, uc3, rfl, hc, hs⟩
  have off2_B := hs.off (h_lt Rw2_B.out) off_B
  have Re3_B := zh (hs.at Rw2_B.out off_B)
  have off_B' := off2_B
  have HCe3 := zh hc
  have HSe3 := zh (HSw2.out.trans hs)
  clear Rw2_B off_B HCw2 HSw2 hc hs
  have off_B := off_B'
  clear off_B' off2_B
  obtain ⟨l_c, l_mf, l_ms, l_mn⟩ := HCe3.out.lt
  have l_B := h_lt Re3_B.out
  go_wp2_with fail
  refine ret_at (v := .tuple #[]) (fun W => Keeps [] e3 W) (by with_reducible repeat (first | exact k0 _ _ | refine kA ?_ _ | refine kD ?_ | refine kS ?_ (by simp) | refine kM ?_ (by simp))) (fun w4 hW => ?_) rfl (fun w4 hW => ?_)
  ·have Kw4 : Keeps [] e3 w4 := hW
   simp [results, Tryz.results76, go_sem]
  ·have Kw4 : Keeps [] e3 w4 := hW
   have Rw4_B := zh (Kw4.at Re3_B.out (by simp))
   have HCw4 := zh (HCe3.out.kp0 Kw4)
   have HSw4 := zh (HSe3.out.loc Kw4 (by simp))
   clear Kw4 l_c l_B l_mf l_ms l_mn Re3_B HCe3 HSe3
   exact ⟨_, _, _, rfl, HCw4.out, HSw4.out⟩

end Go.Proofs.YtkfillfkbhbbjaaGreatDoor
