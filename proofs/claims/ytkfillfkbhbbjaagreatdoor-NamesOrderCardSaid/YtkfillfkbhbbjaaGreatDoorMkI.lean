/- MkI. -/
import Derived.Test.YtkfillfkbhbbjaaGreatDoorMkH
import Derived.Deep.RegionHeld3
set_option maxRecDepth 100000
set_option maxHeartbeats 4000000
set_option linter.unusedSimpArgs false
set_option linter.unusedVariables false
namespace Go.Proofs.YtkfillfkbhbbjaaGreatDoor
open Go.RowKit
theorem BnR.tabK {M : MKey} {I : Nat} {fn : Bool} {w W V : World} (h : BnR M I fn w W) (hk : Keeps [w.heap.size] W V) (g : Nat) (hg : g < 8) : ∀ j, j < tabLen g → V.cell? ⟨g, j, none⟩ = some (.string (M.tb g j)) := fun j hj => by
 have h1 := h.lt; have h2 := h.fix.hk; have h3 := h.fix.low;have h4 := h.mak.lt;rw [World.cell?_of_block (w := W) (a := ⟨g, j, none⟩) (hk.block g (Nat.lt_trans (by omega : g < M.k) h4) qi)];exact h.mak.tab h.fix hg hj
def pickS (l : List ByteArray) (q : Nat) : ByteArray := l.getD q ⟨#[]⟩
theorem run_pick2 {a b : ByteArray} {q : Nat} {w : World} (hq : (q : Int) < 2) : (Instr.index 122 (.agg #[.string a, .string b]) (.int .i64 q)).run Tryz.prog w = .ok (.string (pickS [a, b] q)) w := by
 have hz : q = 0 ∨ q = 1 := by omega
 rcases hz with rfl | rfl <;> rfl
theorem run_pick3 {a b c : ByteArray} {q : Nat} {w : World} (hq : (q : Int) < 3) : (Instr.index 124 (.agg #[.string a, .string b, .string c]) (.int .i64 q)).run Tryz.prog w = .ok (.string (pickS [a, b, c] q)) w := by
 have hz : q = 0 ∨ q = 1 ∨ q = 2 := by omega
 rcases hz with rfl | rfl | rfl <;> rfl
theorem run_pick6 {a b c d e f : ByteArray} {q : Nat} {w : World} (hq : (q : Int) < 6) : (Instr.index 123 (.agg #[.string a, .string b, .string c, .string d, .string e, .string f]) (.int .i64 q)).run Tryz.prog w = .ok (.string (pickS [a, b, c, d, e, f] q)) w := by
 have hz : q = 0 ∨ q = 1 ∨ q = 2 ∨ q = 3 ∨ q = 4 ∨ q = 5 := by omega
 rcases hz with rfl | rfl | rfl | rfl | rfl | rfl <;> rfl
attribute [local go_sem] run_pick2 run_pick3 run_pick6
theorem wrap_id {z : Int} (h1 : -9223372036854775808 ≤ z) (h2 : z ≤ 9223372036854775807) : IntKind.i64.wrap z = z := by rw [IntWalk.i64_left]; unfold wrap64; omega
set_option maxHeartbeats 8000000 in
theorem expr_any {M : MKey} {I : Nat} {fn : Bool} {w : World} (h : Bn M I fn w w) {d : Int} (hd : -1000 ≤ d ∧ d ≤ 1000) {Z K ZL KL ZB KB Z' K' : Nat} (hE : ExprC M fn (d - 1) Z K) (hL : LvalC M fn d ZL KL) (hB : BuiltC M fn (d - 1) ZB KB) (hZ : 3 * Z + 1 ≤ Z' ∧ ZL + Z + 1 ≤ Z' ∧ ZB ≤ Z' ∧ Z + 3 ≤ Z') (hK : 3 * K + KL + KB + 40 ≤ K') (hI : I + K' ≤ 1000000000000) : Calls Tryz.prog 30 #[.pointer (some ⟨M.k, 0, none⟩), .int .i64 d] w fun r w' => NodeP M Z' K' I fn w r w' := by
 have H0 := zh h;clear h
 go_enter Tryz.func30, Tryz.ntmps30
 have HE := zh hE; have HLV := zh hL; have HBU := zh hB; have H_lt := zh H0.out.lt;clear hE hL hB;obtain ⟨i, nn, l, hi, hn, hl1, hl2, hmk⟩ := H0.out.mak;obtain ⟨l_k, x0, x1, x2, x3, x4, y0, y1, y2, y3, y4⟩ := cf5 hmk.row;have HMK := zh hmk;have hnk : M.k ≠ w.heap.size := Nat.ne_of_lt l_k;clear hmk;have hnw : IntKind.i64.wrap ((nn : Int) + 1) = ((nn + 1 : Nat) : Int) := by rw [wrap_id qg qg]; omega
 have hdw : IntKind.i64.wrap (d - 1) = d - 1 := wrap_id qg qg
 go_upto_region 2 with fail
 refine jvb ?_;rintro w1 ⟨hk, hr, hz⟩;have HB1 : Hid (BnR M (I + 1) fn w w1) := zh ⟨H0.out.call ⟨i, nn + 1, l, by omega, by omega, by omega, by omega, HMK.out.upd H0.out.fix hk hr⟩ hk, hz⟩;clear x0 x1 x2 x3 x4 y0 y1 y2 y3 y4 l_k hk hz HMK H0 hi hn hl1 hl2;obtain ⟨l_k, x0, x1, x2, x3, x4, y0, y1, y2, y3, y4⟩ := cf5 hr;clear hr x0 x1 x3 x4 y0 y1 y2 y3 y4;have hx := HB1.out.b;clear hx
 by_cases hd0 : d ≤ 0
 ·have e0 : decide (d ≤ 0) = true := by simp [hd0]
  go_wp2_with fail
  refine (leaf_any HB1.out.here qg).mono ?_;exact zhd
 by_cases hn1 : 120 < nn + 1
 ·have hn2 : (120 : Int) < ((nn + 1 : Nat) : Int) := by omega
  go_wp2_with fail
  refine (leaf_any HB1.out.here qg).mono ?_;exact qsd
 have hn2 : ¬ (120 : Int) < ((nn + 1 : Nat) : Int) := by omega
 go_wp2_with fail
 refine (one_int HB1.out.fix HB1.out.mak qg 20 qg qg).mono ?_;rintro r w5_ ⟨z, h0_z, h1_z, rfl, hm, hk⟩;have HB6 := zh (HB1.out.call hm hk);clear hk hm HB1;clear hn2 hn1 x2;have hz : z = 0 ∨ z = 1 ∨ z = 2 ∨ z = 3 ∨ z = 4 ∨ z = 5 ∨ z = 6 ∨ z = 7 ∨ z = 8 ∨ z = 9 ∨ z = 10 ∨ z = 11 ∨ z = 12 ∨ z = 13 ∨ z = 14 ∨ z = 15 ∨ z = 16 ∨ z = 17 ∨ z = 18 ∨ z = 19 := by omega
 clear h0_z h1_z
 rcases hz with rfl | rfl | rfl | rfl | rfl | rfl | rfl | rfl | rfl | rfl | rfl | rfl | rfl | rfl | rfl | rfl | rfl | rfl | rfl | rfl
 ·go_wp2_with fail
  refine (leaf_any HB6.out.here qg).mono ?_;rintro r w7_ ⟨v, rfl, hn, hm, hk⟩;obtain ⟨k7, nm7, nu7, a7, l7, c7, re7, im7, rfl⟩ := hn.shape;have HB8 := zh (HB6.out.call hm hk);have HN7 := zh (HB6.out.node hn);clear hn;clear hk hm HB6;exact jnd
 ·go_wp2_with fail
  refine (leaf_any HB6.out.here qg).mono ?_;rintro r w9_ ⟨v, rfl, hn, hm, hk⟩;obtain ⟨k9, nm9, nu9, a9, l9, c9, re9, im9, rfl⟩ := hn.shape;have HB10 := zh (HB6.out.call hm hk);have HN9 := zh (HB6.out.node hn);clear hn;clear hk hm HB6;obtain ⟨l_R, xR_0, xR_1, xR_2, xR_3, xR_4, yR_0, yR_1, yR_2, yR_3, yR_4⟩ := cf5 HB10.out.res
  go_wp2_with fail
  refine ret_at (v := .agg #[.int .i64 k9, .string nm9, .float .f64 nu9, .slice a9 l9 c9, .complex .f64 re9 im9]) (fun U => Keeps [w.heap.size] w9_ U ∧ U.heap[w.heap.size]? = some (.cells #[.int .i64 k9, .string nm9, .float .f64 nu9, .slice a9 l9 c9, .complex .f64 re9 im9] 50 (0, 0))) ⟨zg, (za HB10.out.res)⟩ (fun U hU => ?_) rfl (fun U hU => ?_)
  ·obtain ⟨-, x0, x1, x2, x3, x4, -⟩ := cf5 hU.2;exact qpb
  exact HB10.out.fin HN9.out hU.1 qg qg
 ·go_wp2_with fail
  refine (leaf_any HB6.out.here qg).mono ?_;rintro r w11_ ⟨v, rfl, hn, hm, hk⟩;obtain ⟨k11, nm11, nu11, a11, l11, c11, re11, im11, rfl⟩ := hn.shape;have HB12 := zh (HB6.out.call hm hk);have HN11 := zh (HB6.out.node hn);clear hn;clear hk hm HB6;obtain ⟨l_R, xR_0, xR_1, xR_2, xR_3, xR_4, yR_0, yR_1, yR_2, yR_3, yR_4⟩ := cf5 HB12.out.res
  go_wp2_with fail
  refine ret_at (v := .agg #[.int .i64 k11, .string nm11, .float .f64 nu11, .slice a11 l11 c11, .complex .f64 re11 im11]) (fun U => Keeps [w.heap.size] w11_ U ∧ U.heap[w.heap.size]? = some (.cells #[.int .i64 k11, .string nm11, .float .f64 nu11, .slice a11 l11 c11, .complex .f64 re11 im11] 50 (0, 0))) ⟨zg, (za HB12.out.res)⟩ (fun U hU => ?_) rfl (fun U hU => ?_)
  ·obtain ⟨-, x0, x1, x2, x3, x4, -⟩ := cf5 hU.2;exact qpb
  exact HB12.out.fin HN11.out hU.1 qg qg
 ·go_wp2_with fail
  have hk := kD (k0 [] w5_);have HB14 := zh (HB6.out.kp hk);clear hk HB6
  go_region_held3 (fun V => ∀ j : Nat, j < 7 → V.cell? ⟨0, j, none⟩ = some (.string (M.tb 0 j))) (first
    | exact HB24.out.tabK zg 0 qg
    | exact HB22.out.tabK zg 0 qg
    | exact HB20.out.tabK zg 0 qg
    | exact HB18.out.tabK zg 0 qg
    | exact HB16.out.tabK zg 0 qg
    | exact HB14.out.tabK zg 0 qg)
   (first
    | (
        go_at_call 29
        refine (one_any HB14.out.fix HB14.out.mak qg 7 qg qg).mono ?_;rintro r w15_ ⟨q, hq_q, rfl, hm, hk⟩;have HB16 := zh (HB14.out.call hm hk);clear hk hm HB14;have hi_q : (q : Int) < 7 := by omega)
    | (
        go_at_call 54
        refine (HLV.out _ _ HB16.out.here qg).mono ?_;rintro r w17_ ⟨v, rfl, hn, hm, hk⟩;obtain ⟨k17, nm17, nu17, a17, l17, c17, re17, im17, rfl⟩ := hn.shape;have HB18 := zh (HB16.out.call hm hk);have HN17 := zh (HB16.out.node hn);clear hn;clear hk hm HB16)
    | (
        go_at_call 30
        refine (HE.out _ _ HB18.out.here qg).mono ?_;rintro r w19_ ⟨v, rfl, hn, hm, hk⟩;obtain ⟨k19, nm19, nu19, a19, l19, c19, re19, im19, rfl⟩ := hn.shape;have HB20 := zh (HB18.out.call hm hk);have HN20_n17 := zh (HB18.out.nd hk HN17.out);have HN19 := zh (HB18.out.node hn);clear hn;clear hk hm HB18 HN17)
    | (
        go_at_call 32
        refine calls_at (fun V => Keeps [] w19_ V ∧ V.heap[w19_.heap.size]? = some (.cells #[.int .i64 k17, .string nm17, .float .f64 nu17, .slice a17 l17 c17, .complex .f64 re17 im17, .int .i64 k19, .string nm19, .float .f64 nu19, .slice a19 l19 c19, .complex .f64 re19 im19] 50 (0, 0))) ⟨zg, ja⟩ ?_;rintro w21_ ⟨hk, hr⟩;have HB22 := zh (HB20.out.kp hk);have HN22_n17 := zh (HN20_n17.out.step hk jg);have HN22_n19 := zh (HN19.out.step hk jg);have HK21 := zh (Kd.row2 hr HB20.out.b HN22_n17.out HN22_n19.out);clear hr;clear hk HB20 HN20_n17 HN19;clear HN22_n17;clear HN22_n19;refine jrb ?_;rintro r w23_ ⟨rfl, hk⟩;have HB24 := zh (HB22.out.kp hk);have HK24 := zh (HK21.out.step hk jg);clear hk HB22 HK21;have HH23 : Hid (Nd (w.heap.size + 1) _ w23_ (.agg #[.int .i64 7, .string (M.tb 0 q), .float .f64 0, .slice (some ⟨w19_.heap.size, 0, none⟩) 2 2, .complex .f64 0 0])) := zh (HK24.out.mk zi);clear HK24;obtain ⟨l_R, xR_0, xR_1, xR_2, xR_3, xR_4, yR_0, yR_1, yR_2, yR_3, yR_4⟩ := cf5 HB24.out.res))
  all_goals
   go_wp2_with fail
   refine ret_at (v := .agg #[.int .i64 7, .string (M.tb 0 q), .float .f64 0, .slice (some ⟨w19_.heap.size, 0, none⟩) 2 2, .complex .f64 0 0]) (fun U => Keeps [w.heap.size] w23_ U ∧ U.heap[w.heap.size]? = some (.cells #[.int .i64 7, .string (M.tb 0 q), .float .f64 0, .slice (some ⟨w19_.heap.size, 0, none⟩) 2 2, .complex .f64 0 0] 50 (0, 0))) ⟨zg, (za HB24.out.res)⟩ (fun U hU => ?_) rfl (fun U hU => ?_)
   ·obtain ⟨-, x0, x1, x2, x3, x4, -⟩ := cf5 hU.2;exact qpb
   exact HB24.out.fin HH23.out hU.1 qg qg
 ·go_wp2_with fail
  refine qvb ?_;rintro r w25_ ⟨v, rfl, hn, hm, hk⟩;obtain ⟨k25, nm25, nu25, a25, l25, c25, re25, im25, rfl⟩ := hn.shape;have HB26 := zh (HB6.out.call hm hk);have HN25 := zh (HB6.out.node hn);clear hn;clear hk hm HB6
  go_wp2_with fail
  refine (HE.out _ _ HB26.out.here qg).mono ?_;rintro r w27_ ⟨v, rfl, hn, hm, hk⟩;obtain ⟨k27, nm27, nu27, a27, l27, c27, re27, im27, rfl⟩ := hn.shape;have HB28 := zh (HB26.out.call hm hk);have HN28_n25 := zh (HB26.out.nd hk HN25.out);have HN27 := zh (HB26.out.node hn);clear hn;clear hk hm HB26 HN25
  go_wp2_with fail
  refine (HE.out _ _ HB28.out.here qg).mono ?_;rintro r w29_ ⟨v, rfl, hn, hm, hk⟩;obtain ⟨k29, nm29, nu29, a29, l29, c29, re29, im29, rfl⟩ := hn.shape;have HB30 := zh (HB28.out.call hm hk);have HN30_n25 := zh (HB28.out.nd hk HN28_n25.out);have HN30_n27 := zh (HB28.out.nd hk HN27.out);have HN29 := zh (HB28.out.node hn);clear hn;clear hk hm HB28 HN28_n25 HN27
  go_wp2_with fail
  refine calls_at (fun V => Keeps [] w29_ V ∧ V.heap[w29_.heap.size]? = some (.cells #[.int .i64 k25, .string nm25, .float .f64 nu25, .slice a25 l25 c25, .complex .f64 re25 im25, .int .i64 k27, .string nm27, .float .f64 nu27, .slice a27 l27 c27, .complex .f64 re27 im27, .int .i64 k29, .string nm29, .float .f64 nu29, .slice a29 l29 c29, .complex .f64 re29 im29] 50 (0, 0))) ⟨zg, ja⟩ ?_;rintro w31_ ⟨hk, hr⟩;have HB32 := zh (HB30.out.kp hk);have HN32_n25 := zh (HN30_n25.out.step hk jg);have HN32_n27 := zh (HN30_n27.out.step hk jg);have HN32_n29 := zh (HN29.out.step hk jg);have HK31 := zh (Kd.row3 hr HB30.out.b HN32_n25.out HN32_n27.out HN32_n29.out);clear hr;clear hk HB30 HN30_n25 HN30_n27 HN29;clear HN32_n25;clear HN32_n27;clear HN32_n29;refine jrb ?_;rintro r w33_ ⟨rfl, hk⟩;have HB34 := zh (HB32.out.kp hk);have HK34 := zh (HK31.out.step hk jg);clear hk HB32 HK31;have HH33 : Hid (Nd (w.heap.size + 1) _ w33_ (.agg #[.int .i64 8, .string ⟨#[]⟩, .float .f64 0, .slice (some ⟨w29_.heap.size, 0, none⟩) 3 3, .complex .f64 0 0])) := zh (HK34.out.mk zi);clear HK34;obtain ⟨l_R, xR_0, xR_1, xR_2, xR_3, xR_4, yR_0, yR_1, yR_2, yR_3, yR_4⟩ := cf5 HB34.out.res
  go_wp2_with fail
  refine ret_at (v := .agg #[.int .i64 8, .string ⟨#[]⟩, .float .f64 0, .slice (some ⟨w29_.heap.size, 0, none⟩) 3 3, .complex .f64 0 0]) (fun U => Keeps [w.heap.size] w33_ U ∧ U.heap[w.heap.size]? = some (.cells #[.int .i64 8, .string ⟨#[]⟩, .float .f64 0, .slice (some ⟨w29_.heap.size, 0, none⟩) 3 3, .complex .f64 0 0] 50 (0, 0))) ⟨zg, (za HB34.out.res)⟩ (fun U hU => ?_) rfl (fun U hU => ?_)
  ·obtain ⟨-, x0, x1, x2, x3, x4, -⟩ := cf5 hU.2;exact qpb
  exact HB34.out.fin HH33.out hU.1 qg qg
 ·go_wp2_with fail
  refine (one_int HB6.out.fix HB6.out.mak qg 2 qg qg).mono ?_;rintro r w35_ ⟨y, h0_y, h1_y, rfl, hm, hk⟩;have HB36 := zh (HB6.out.call hm hk);clear hk hm HB6;have hy9 : IntKind.i64.wrap (9 + y) = 9 + y := wrap_id qg qg
  go_wp2_with fail
  refine (HE.out _ _ HB36.out.here qg).mono ?_;rintro r w37_ ⟨v, rfl, hn, hm, hk⟩;obtain ⟨k37, nm37, nu37, a37, l37, c37, re37, im37, rfl⟩ := hn.shape;have HB38 := zh (HB36.out.call hm hk);have HN37 := zh (HB36.out.node hn);clear hn;clear hk hm HB36
  go_wp2_with fail
  refine (HE.out _ _ HB38.out.here qg).mono ?_;rintro r w39_ ⟨v, rfl, hn, hm, hk⟩;obtain ⟨k39, nm39, nu39, a39, l39, c39, re39, im39, rfl⟩ := hn.shape;have HB40 := zh (HB38.out.call hm hk);have HN40_n37 := zh (HB38.out.nd hk HN37.out);have HN39 := zh (HB38.out.node hn);clear hn;clear hk hm HB38 HN37
  go_wp2_with fail
  refine calls_at (fun V => Keeps [] w39_ V ∧ V.heap[w39_.heap.size]? = some (.cells #[.int .i64 k37, .string nm37, .float .f64 nu37, .slice a37 l37 c37, .complex .f64 re37 im37, .int .i64 k39, .string nm39, .float .f64 nu39, .slice a39 l39 c39, .complex .f64 re39 im39] 50 (0, 0))) ⟨zg, ja⟩ ?_;rintro w41_ ⟨hk, hr⟩;have HB42 := zh (HB40.out.kp hk);have HN42_n37 := zh (HN40_n37.out.step hk jg);have HN42_n39 := zh (HN39.out.step hk jg);have HK41 := zh (Kd.row2 hr HB40.out.b HN42_n37.out HN42_n39.out);clear hr;clear hk HB40 HN40_n37 HN39;clear HN42_n37;clear HN42_n39;refine jrb ?_;rintro r w43_ ⟨rfl, hk⟩;have HB44 := zh (HB42.out.kp hk);have HK44 := zh (HK41.out.step hk jg);clear hk HB42 HK41;have HH43 : Hid (Nd (w.heap.size + 1) _ w43_ (.agg #[.int .i64 (9 + y), .string ⟨#[]⟩, .float .f64 0, .slice (some ⟨w39_.heap.size, 0, none⟩) 2 2, .complex .f64 0 0])) := zh (HK44.out.mk qg);clear HK44;obtain ⟨l_R, xR_0, xR_1, xR_2, xR_3, xR_4, yR_0, yR_1, yR_2, yR_3, yR_4⟩ := cf5 HB44.out.res
  go_wp2_with fail
  refine ret_at (v := .agg #[.int .i64 (9 + y), .string ⟨#[]⟩, .float .f64 0, .slice (some ⟨w39_.heap.size, 0, none⟩) 2 2, .complex .f64 0 0]) (fun U => Keeps [w.heap.size] w43_ U ∧ U.heap[w.heap.size]? = some (.cells #[.int .i64 (9 + y), .string ⟨#[]⟩, .float .f64 0, .slice (some ⟨w39_.heap.size, 0, none⟩) 2 2, .complex .f64 0 0] 50 (0, 0))) ⟨zg, (za HB44.out.res)⟩ (fun U hU => ?_) rfl (fun U hU => ?_)
  ·obtain ⟨-, x0, x1, x2, x3, x4, -⟩ := cf5 hU.2;exact qpb
  exact HB44.out.fin HH43.out hU.1 qg qg
 ·go_wp2_with fail
  refine (array_any HB6.out.here qg).mono ?_;rintro r w45_ ⟨s45, rfl, hm, hk⟩;have HB46 := zh (HB6.out.call hm hk);clear hk hm HB6
  go_wp2_with fail
  refine (HE.out _ _ HB46.out.here qg).mono ?_;rintro r w47_ ⟨v, rfl, hn, hm, hk⟩;obtain ⟨k47, nm47, nu47, a47, l47, c47, re47, im47, rfl⟩ := hn.shape;have HB48 := zh (HB46.out.call hm hk);have HN47 := zh (HB46.out.node hn);clear hn;clear hk hm HB46
  go_wp2_with fail
  refine zvb ?_;rintro w49_ ⟨hk, hr⟩;have HB50 := zh (HB48.out.kp hk);have HN50_n47 := zh (HN47.out.step hk jg);have HK49 := zh (Kd.row1 hr HB48.out.b HN50_n47.out);clear hr;clear hk HB48 HN47;clear HN50_n47;refine jrb ?_;rintro r w51_ ⟨rfl, hk⟩;have HB52 := zh (HB50.out.kp hk);have HK52 := zh (HK49.out.step hk jg);clear hk HB50 HK49;have HH51 : Hid (Nd (w.heap.size + 1) _ w51_ (.agg #[.int .i64 11, .string s45, .float .f64 0, .slice (some ⟨w47_.heap.size, 0, none⟩) 1 1, .complex .f64 0 0])) := zh (HK52.out.mk zi);clear HK52;obtain ⟨l_R, xR_0, xR_1, xR_2, xR_3, xR_4, yR_0, yR_1, yR_2, yR_3, yR_4⟩ := cf5 HB52.out.res
  go_wp2_with fail
  refine ret_at (v := .agg #[.int .i64 11, .string s45, .float .f64 0, .slice (some ⟨w47_.heap.size, 0, none⟩) 1 1, .complex .f64 0 0]) (fun U => Keeps [w.heap.size] w51_ U ∧ U.heap[w.heap.size]? = some (.cells #[.int .i64 11, .string s45, .float .f64 0, .slice (some ⟨w47_.heap.size, 0, none⟩) 1 1, .complex .f64 0 0] 50 (0, 0))) ⟨zg, (za HB52.out.res)⟩ (fun U hU => ?_) rfl (fun U hU => ?_)
  ·obtain ⟨-, x0, x1, x2, x3, x4, -⟩ := cf5 hU.2;exact qpb
  exact HB52.out.fin HH51.out hU.1 qg qg
 ·go_wp2_with fail
  have hk := kD (k0 [] w5_);have HB54 := zh (HB6.out.kp hk);clear hk HB6
  go_region_held3 (fun _ => True) (trivial)
   (first
    | (
        go_at_call 29
        refine (one_any HB54.out.fix HB54.out.mak qg 2 qg qg).mono ?_;rintro r w55_ ⟨q, hq_q, rfl, hm, hk⟩;have HB56 := zh (HB54.out.call hm hk);clear hk hm HB54;have hi_q : (q : Int) < 2 := by omega)
    | (
        go_at_call 30
        refine (HE.out _ _ HB56.out.here qg).mono ?_;rintro r w57_ ⟨v, rfl, hn, hm, hk⟩;obtain ⟨k57, nm57, nu57, a57, l57, c57, re57, im57, rfl⟩ := hn.shape;have HB58 := zh (HB56.out.call hm hk);have HN57 := zh (HB56.out.node hn);clear hn;clear hk hm HB56)
    | (
        go_at_call 56
        refine (regex_any HB58.out.here qg).mono ?_;rintro r w59_ ⟨v, rfl, hn, hm, hk⟩;obtain ⟨k59, nm59, nu59, a59, l59, c59, re59, im59, rfl⟩ := hn.shape;have HB60 := zh (HB58.out.call hm hk);have HN60_n57 := zh (HB58.out.nd hk HN57.out);have HN59 := zh (HB58.out.node hn);clear hn;clear hk hm HB58 HN57)
    | (
        go_at_call 32
        refine calls_at (fun V => Keeps [] w59_ V ∧ V.heap[w59_.heap.size]? = some (.cells #[.int .i64 k57, .string nm57, .float .f64 nu57, .slice a57 l57 c57, .complex .f64 re57 im57, .int .i64 k59, .string nm59, .float .f64 nu59, .slice a59 l59 c59, .complex .f64 re59 im59] 50 (0, 0))) ⟨zg, ja⟩ ?_;rintro w61_ ⟨hk, hr⟩;have HB62 := zh (HB60.out.kp hk);have HN62_n57 := zh (HN60_n57.out.step hk jg);have HN62_n59 := zh (HN59.out.step hk jg);have HK61 := zh (Kd.row2 hr HB60.out.b HN62_n57.out HN62_n59.out);clear hr;clear hk HB60 HN60_n57 HN59;clear HN62_n57;clear HN62_n59;refine jrb ?_;rintro r w63_ ⟨rfl, hk⟩;have HB64 := zh (HB62.out.kp hk);have HK64 := zh (HK61.out.step hk jg);clear hk HB62 HK61;have HH63 : Hid (Nd (w.heap.size + 1) _ w63_ (.agg #[.int .i64 12, .string (pickS [⟨#[126]⟩, ⟨#[33, 126]⟩] q), .float .f64 0, .slice (some ⟨w59_.heap.size, 0, none⟩) 2 2, .complex .f64 0 0])) := zh (HK64.out.mk zi);clear HK64;obtain ⟨l_R, xR_0, xR_1, xR_2, xR_3, xR_4, yR_0, yR_1, yR_2, yR_3, yR_4⟩ := cf5 HB64.out.res))
  all_goals
   go_wp2_with fail
   refine ret_at (v := .agg #[.int .i64 12, .string (pickS [⟨#[126]⟩, ⟨#[33, 126]⟩] q), .float .f64 0, .slice (some ⟨w59_.heap.size, 0, none⟩) 2 2, .complex .f64 0 0]) (fun U => Keeps [w.heap.size] w63_ U ∧ U.heap[w.heap.size]? = some (.cells #[.int .i64 12, .string (pickS [⟨#[126]⟩, ⟨#[33, 126]⟩] q), .float .f64 0, .slice (some ⟨w59_.heap.size, 0, none⟩) 2 2, .complex .f64 0 0] 50 (0, 0))) ⟨zg, (za HB64.out.res)⟩ (fun U hU => ?_) rfl (fun U hU => ?_)
   ·obtain ⟨-, x0, x1, x2, x3, x4, -⟩ := cf5 hU.2;exact qpb
   exact HB64.out.fin HH63.out hU.1 qg qg
 ·go_wp2_with fail
  have hk := kD (k0 [] w5_);have HB66 := zh (HB6.out.kp hk);clear hk HB6
  go_region_held3 (fun V => ∀ j : Nat, j < 6 → V.cell? ⟨1, j, none⟩ = some (.string (M.tb 1 j))) (first
    | exact HB76.out.tabK zg 1 qg
    | exact HB74.out.tabK zg 1 qg
    | exact HB72.out.tabK zg 1 qg
    | exact HB70.out.tabK zg 1 qg
    | exact HB68.out.tabK zg 1 qg
    | exact HB66.out.tabK zg 1 qg)
   (first
    | (
        go_at_call 29
        refine (one_any HB66.out.fix HB66.out.mak qg 6 qg qg).mono ?_;rintro r w67_ ⟨q, hq_q, rfl, hm, hk⟩;have HB68 := zh (HB66.out.call hm hk);clear hk hm HB66;have hi_q : (q : Int) < 6 := by omega)
    | (
        go_at_call 30
        refine (HE.out _ _ HB68.out.here qg).mono ?_;rintro r w69_ ⟨v, rfl, hn, hm, hk⟩;obtain ⟨k69, nm69, nu69, a69, l69, c69, re69, im69, rfl⟩ := hn.shape;have HB70 := zh (HB68.out.call hm hk);have HN69 := zh (HB68.out.node hn);clear hn;clear hk hm HB68)
    | (
        go_at_call 30
        refine (HE.out _ _ HB70.out.here qg).mono ?_;rintro r w71_ ⟨v, rfl, hn, hm, hk⟩;obtain ⟨k71, nm71, nu71, a71, l71, c71, re71, im71, rfl⟩ := hn.shape;have HB72 := zh (HB70.out.call hm hk);have HN72_n69 := zh (HB70.out.nd hk HN69.out);have HN71 := zh (HB70.out.node hn);clear hn;clear hk hm HB70 HN69)
    | (
        go_at_call 32
        refine calls_at (fun V => Keeps [] w71_ V ∧ V.heap[w71_.heap.size]? = some (.cells #[.int .i64 k69, .string nm69, .float .f64 nu69, .slice a69 l69 c69, .complex .f64 re69 im69, .int .i64 k71, .string nm71, .float .f64 nu71, .slice a71 l71 c71, .complex .f64 re71 im71] 50 (0, 0))) ⟨zg, ja⟩ ?_;rintro w73_ ⟨hk, hr⟩;have HB74 := zh (HB72.out.kp hk);have HN74_n69 := zh (HN72_n69.out.step hk jg);have HN74_n71 := zh (HN71.out.step hk jg);have HK73 := zh (Kd.row2 hr HB72.out.b HN74_n69.out HN74_n71.out);clear hr;clear hk HB72 HN72_n69 HN71;clear HN74_n69;clear HN74_n71;refine jrb ?_;rintro r w75_ ⟨rfl, hk⟩;have HB76 := zh (HB74.out.kp hk);have HK76 := zh (HK73.out.step hk jg);clear hk HB74 HK73;have HH75 : Hid (Nd (w.heap.size + 1) _ w75_ (.agg #[.int .i64 13, .string (M.tb 1 q), .float .f64 0, .slice (some ⟨w71_.heap.size, 0, none⟩) 2 2, .complex .f64 0 0])) := zh (HK76.out.mk zi);clear HK76;obtain ⟨l_R, xR_0, xR_1, xR_2, xR_3, xR_4, yR_0, yR_1, yR_2, yR_3, yR_4⟩ := cf5 HB76.out.res))
  all_goals
   go_wp2_with fail
   refine ret_at (v := .agg #[.int .i64 13, .string (M.tb 1 q), .float .f64 0, .slice (some ⟨w71_.heap.size, 0, none⟩) 2 2, .complex .f64 0 0]) (fun U => Keeps [w.heap.size] w75_ U ∧ U.heap[w.heap.size]? = some (.cells #[.int .i64 13, .string (M.tb 1 q), .float .f64 0, .slice (some ⟨w71_.heap.size, 0, none⟩) 2 2, .complex .f64 0 0] 50 (0, 0))) ⟨zg, (za HB76.out.res)⟩ (fun U hU => ?_) rfl (fun U hU => ?_)
   ·obtain ⟨-, x0, x1, x2, x3, x4, -⟩ := cf5 hU.2;exact qpb
   exact HB76.out.fin HH75.out hU.1 qg qg
 ·go_wp2_with fail
  have hk := kD (k0 [] w5_);have HB78 := zh (HB6.out.kp hk);clear hk HB6
  go_region_held3 (fun V => ∀ j : Nat, j < 6 → V.cell? ⟨1, j, none⟩ = some (.string (M.tb 1 j))) (first
    | exact HB88.out.tabK zg 1 qg
    | exact HB86.out.tabK zg 1 qg
    | exact HB84.out.tabK zg 1 qg
    | exact HB82.out.tabK zg 1 qg
    | exact HB80.out.tabK zg 1 qg
    | exact HB78.out.tabK zg 1 qg)
   (first
    | (
        go_at_call 29
        refine (one_any HB78.out.fix HB78.out.mak qg 6 qg qg).mono ?_;rintro r w79_ ⟨q, hq_q, rfl, hm, hk⟩;have HB80 := zh (HB78.out.call hm hk);clear hk hm HB78;have hi_q : (q : Int) < 6 := by omega)
    | (
        go_at_call 30
        refine (HE.out _ _ HB80.out.here qg).mono ?_;rintro r w81_ ⟨v, rfl, hn, hm, hk⟩;obtain ⟨k81, nm81, nu81, a81, l81, c81, re81, im81, rfl⟩ := hn.shape;have HB82 := zh (HB80.out.call hm hk);have HN81 := zh (HB80.out.node hn);clear hn;clear hk hm HB80)
    | (
        go_at_call 30
        refine (HE.out _ _ HB82.out.here qg).mono ?_;rintro r w83_ ⟨v, rfl, hn, hm, hk⟩;obtain ⟨k83, nm83, nu83, a83, l83, c83, re83, im83, rfl⟩ := hn.shape;have HB84 := zh (HB82.out.call hm hk);have HN84_n81 := zh (HB82.out.nd hk HN81.out);have HN83 := zh (HB82.out.node hn);clear hn;clear hk hm HB82 HN81)
    | (
        go_at_call 32
        refine calls_at (fun V => Keeps [] w83_ V ∧ V.heap[w83_.heap.size]? = some (.cells #[.int .i64 k81, .string nm81, .float .f64 nu81, .slice a81 l81 c81, .complex .f64 re81 im81, .int .i64 k83, .string nm83, .float .f64 nu83, .slice a83 l83 c83, .complex .f64 re83 im83] 50 (0, 0))) ⟨zg, ja⟩ ?_;rintro w85_ ⟨hk, hr⟩;have HB86 := zh (HB84.out.kp hk);have HN86_n81 := zh (HN84_n81.out.step hk jg);have HN86_n83 := zh (HN83.out.step hk jg);have HK85 := zh (Kd.row2 hr HB84.out.b HN86_n81.out HN86_n83.out);clear hr;clear hk HB84 HN84_n81 HN83;clear HN86_n81;clear HN86_n83;refine jrb ?_;rintro r w87_ ⟨rfl, hk⟩;have HB88 := zh (HB86.out.kp hk);have HK88 := zh (HK85.out.step hk jg);clear hk HB86 HK85;have HH87 : Hid (Nd (w.heap.size + 1) _ w87_ (.agg #[.int .i64 13, .string (M.tb 1 q), .float .f64 0, .slice (some ⟨w83_.heap.size, 0, none⟩) 2 2, .complex .f64 0 0])) := zh (HK88.out.mk zi);clear HK88;obtain ⟨l_R, xR_0, xR_1, xR_2, xR_3, xR_4, yR_0, yR_1, yR_2, yR_3, yR_4⟩ := cf5 HB88.out.res))
  all_goals
   go_wp2_with fail
   refine ret_at (v := .agg #[.int .i64 13, .string (M.tb 1 q), .float .f64 0, .slice (some ⟨w83_.heap.size, 0, none⟩) 2 2, .complex .f64 0 0]) (fun U => Keeps [w.heap.size] w87_ U ∧ U.heap[w.heap.size]? = some (.cells #[.int .i64 13, .string (M.tb 1 q), .float .f64 0, .slice (some ⟨w83_.heap.size, 0, none⟩) 2 2, .complex .f64 0 0] 50 (0, 0))) ⟨zg, (za HB88.out.res)⟩ (fun U hU => ?_) rfl (fun U hU => ?_)
   ·obtain ⟨-, x0, x1, x2, x3, x4, -⟩ := cf5 hU.2;exact qpb
   exact HB88.out.fin HH87.out hU.1 qg qg
 ·go_wp2_with fail
  refine qvb ?_;rintro r w89_ ⟨v, rfl, hn, hm, hk⟩;obtain ⟨k89, nm89, nu89, a89, l89, c89, re89, im89, rfl⟩ := hn.shape;have HB90 := zh (HB6.out.call hm hk);have HN89 := zh (HB6.out.node hn);clear hn;clear hk hm HB6
  go_wp2_with fail
  refine (HE.out _ _ HB90.out.here qg).mono ?_;rintro r w91_ ⟨v, rfl, hn, hm, hk⟩;obtain ⟨k91, nm91, nu91, a91, l91, c91, re91, im91, rfl⟩ := hn.shape;have HB92 := zh (HB90.out.call hm hk);have HN92_n89 := zh (HB90.out.nd hk HN89.out);have HN91 := zh (HB90.out.node hn);clear hn;clear hk hm HB90 HN89
  go_wp2_with fail
  refine calls_at (fun V => Keeps [] w91_ V ∧ V.heap[w91_.heap.size]? = some (.cells #[.int .i64 k89, .string nm89, .float .f64 nu89, .slice a89 l89 c89, .complex .f64 re89 im89, .int .i64 k91, .string nm91, .float .f64 nu91, .slice a91 l91 c91, .complex .f64 re91 im91] 50 (0, 0))) ⟨zg, ja⟩ ?_;rintro w93_ ⟨hk, hr⟩;have HB94 := zh (HB92.out.kp hk);have HN94_n89 := zh (HN92_n89.out.step hk jg);have HN94_n91 := zh (HN91.out.step hk jg);have HK93 := zh (Kd.row2 hr HB92.out.b HN94_n89.out HN94_n91.out);clear hr;clear hk HB92 HN92_n89 HN91;clear HN94_n89;clear HN94_n91;refine jrb ?_;rintro r w95_ ⟨rfl, hk⟩;have HB96 := zh (HB94.out.kp hk);have HK96 := zh (HK93.out.step hk jg);clear hk HB94 HK93;have HH95 : Hid (Nd (w.heap.size + 1) _ w95_ (.agg #[.int .i64 14, .string ⟨#[]⟩, .float .f64 0, .slice (some ⟨w91_.heap.size, 0, none⟩) 2 2, .complex .f64 0 0])) := zh (HK96.out.mk zi);clear HK96;obtain ⟨l_R, xR_0, xR_1, xR_2, xR_3, xR_4, yR_0, yR_1, yR_2, yR_3, yR_4⟩ := cf5 HB96.out.res
  go_wp2_with fail
  refine ret_at (v := .agg #[.int .i64 14, .string ⟨#[]⟩, .float .f64 0, .slice (some ⟨w91_.heap.size, 0, none⟩) 2 2, .complex .f64 0 0]) (fun U => Keeps [w.heap.size] w95_ U ∧ U.heap[w.heap.size]? = some (.cells #[.int .i64 14, .string ⟨#[]⟩, .float .f64 0, .slice (some ⟨w91_.heap.size, 0, none⟩) 2 2, .complex .f64 0 0] 50 (0, 0))) ⟨zg, (za HB96.out.res)⟩ (fun U hU => ?_) rfl (fun U hU => ?_)
  ·obtain ⟨-, x0, x1, x2, x3, x4, -⟩ := cf5 hU.2;exact qpb
  exact HB96.out.fin HH95.out hU.1 qg qg
 ·go_wp2_with fail
  refine qvb ?_;rintro r w97_ ⟨v, rfl, hn, hm, hk⟩;obtain ⟨k97, nm97, nu97, a97, l97, c97, re97, im97, rfl⟩ := hn.shape;have HB98 := zh (HB6.out.call hm hk);have HN97 := zh (HB6.out.node hn);clear hn;clear hk hm HB6
  go_wp2_with fail
  refine (HE.out _ _ HB98.out.here qg).mono ?_;rintro r w99_ ⟨v, rfl, hn, hm, hk⟩;obtain ⟨k99, nm99, nu99, a99, l99, c99, re99, im99, rfl⟩ := hn.shape;have HB100 := zh (HB98.out.call hm hk);have HN100_n97 := zh (HB98.out.nd hk HN97.out);have HN99 := zh (HB98.out.node hn);clear hn;clear hk hm HB98 HN97
  go_wp2_with fail
  refine calls_at (fun V => Keeps [] w99_ V ∧ V.heap[w99_.heap.size]? = some (.cells #[.int .i64 k97, .string nm97, .float .f64 nu97, .slice a97 l97 c97, .complex .f64 re97 im97, .int .i64 k99, .string nm99, .float .f64 nu99, .slice a99 l99 c99, .complex .f64 re99 im99] 50 (0, 0))) ⟨zg, ja⟩ ?_;rintro w101_ ⟨hk, hr⟩;have HB102 := zh (HB100.out.kp hk);have HN102_n97 := zh (HN100_n97.out.step hk jg);have HN102_n99 := zh (HN99.out.step hk jg);have HK101 := zh (Kd.row2 hr HB100.out.b HN102_n97.out HN102_n99.out);clear hr;clear hk HB100 HN100_n97 HN99;clear HN102_n97;clear HN102_n99;refine jrb ?_;rintro r w103_ ⟨rfl, hk⟩;have HB104 := zh (HB102.out.kp hk);have HK104 := zh (HK101.out.step hk jg);clear hk HB102 HK101;have HH103 : Hid (Nd (w.heap.size + 1) _ w103_ (.agg #[.int .i64 14, .string ⟨#[]⟩, .float .f64 0, .slice (some ⟨w99_.heap.size, 0, none⟩) 2 2, .complex .f64 0 0])) := zh (HK104.out.mk zi);clear HK104;obtain ⟨l_R, xR_0, xR_1, xR_2, xR_3, xR_4, yR_0, yR_1, yR_2, yR_3, yR_4⟩ := cf5 HB104.out.res
  go_wp2_with fail
  refine ret_at (v := .agg #[.int .i64 14, .string ⟨#[]⟩, .float .f64 0, .slice (some ⟨w99_.heap.size, 0, none⟩) 2 2, .complex .f64 0 0]) (fun U => Keeps [w.heap.size] w103_ U ∧ U.heap[w.heap.size]? = some (.cells #[.int .i64 14, .string ⟨#[]⟩, .float .f64 0, .slice (some ⟨w99_.heap.size, 0, none⟩) 2 2, .complex .f64 0 0] 50 (0, 0))) ⟨zg, (za HB104.out.res)⟩ (fun U hU => ?_) rfl (fun U hU => ?_)
  ·obtain ⟨-, x0, x1, x2, x3, x4, -⟩ := cf5 hU.2;exact qpb
  exact HB104.out.fin HH103.out hU.1 qg qg
 ·go_wp2_with fail
  have hk := kD (k0 [] w5_);have HB106 := zh (HB6.out.kp hk);clear hk HB6
  go_region_held3 (fun V => ∀ j : Nat, j < 6 → V.cell? ⟨2, j, none⟩ = some (.string (M.tb 2 j))) (first
    | exact HB116.out.tabK zg 2 qg
    | exact HB114.out.tabK zg 2 qg
    | exact HB112.out.tabK zg 2 qg
    | exact HB110.out.tabK zg 2 qg
    | exact HB108.out.tabK zg 2 qg
    | exact HB106.out.tabK zg 2 qg)
   (first
    | (
        go_at_call 29
        refine (one_any HB106.out.fix HB106.out.mak qg 6 qg qg).mono ?_;rintro r w107_ ⟨q, hq_q, rfl, hm, hk⟩;have HB108 := zh (HB106.out.call hm hk);clear hk hm HB106;have hi_q : (q : Int) < 6 := by omega)
    | (
        go_at_call 30
        refine (HE.out _ _ HB108.out.here qg).mono ?_;rintro r w109_ ⟨v, rfl, hn, hm, hk⟩;obtain ⟨k109, nm109, nu109, a109, l109, c109, re109, im109, rfl⟩ := hn.shape;have HB110 := zh (HB108.out.call hm hk);have HN109 := zh (HB108.out.node hn);clear hn;clear hk hm HB108)
    | (
        go_at_call 30
        refine (HE.out _ _ HB110.out.here qg).mono ?_;rintro r w111_ ⟨v, rfl, hn, hm, hk⟩;obtain ⟨k111, nm111, nu111, a111, l111, c111, re111, im111, rfl⟩ := hn.shape;have HB112 := zh (HB110.out.call hm hk);have HN112_n109 := zh (HB110.out.nd hk HN109.out);have HN111 := zh (HB110.out.node hn);clear hn;clear hk hm HB110 HN109)
    | (
        go_at_call 32
        refine calls_at (fun V => Keeps [] w111_ V ∧ V.heap[w111_.heap.size]? = some (.cells #[.int .i64 k109, .string nm109, .float .f64 nu109, .slice a109 l109 c109, .complex .f64 re109 im109, .int .i64 k111, .string nm111, .float .f64 nu111, .slice a111 l111 c111, .complex .f64 re111 im111] 50 (0, 0))) ⟨zg, ja⟩ ?_;rintro w113_ ⟨hk, hr⟩;have HB114 := zh (HB112.out.kp hk);have HN114_n109 := zh (HN112_n109.out.step hk jg);have HN114_n111 := zh (HN111.out.step hk jg);have HK113 := zh (Kd.row2 hr HB112.out.b HN114_n109.out HN114_n111.out);clear hr;clear hk HB112 HN112_n109 HN111;clear HN114_n109;clear HN114_n111;refine jrb ?_;rintro r w115_ ⟨rfl, hk⟩;have HB116 := zh (HB114.out.kp hk);have HK116 := zh (HK113.out.step hk jg);clear hk HB114 HK113;have HH115 : Hid (Nd (w.heap.size + 1) _ w115_ (.agg #[.int .i64 15, .string (M.tb 2 q), .float .f64 0, .slice (some ⟨w111_.heap.size, 0, none⟩) 2 2, .complex .f64 0 0])) := zh (HK116.out.mk zi);clear HK116;obtain ⟨l_R, xR_0, xR_1, xR_2, xR_3, xR_4, yR_0, yR_1, yR_2, yR_3, yR_4⟩ := cf5 HB116.out.res))
  all_goals
   go_wp2_with fail
   refine ret_at (v := .agg #[.int .i64 15, .string (M.tb 2 q), .float .f64 0, .slice (some ⟨w111_.heap.size, 0, none⟩) 2 2, .complex .f64 0 0]) (fun U => Keeps [w.heap.size] w115_ U ∧ U.heap[w.heap.size]? = some (.cells #[.int .i64 15, .string (M.tb 2 q), .float .f64 0, .slice (some ⟨w111_.heap.size, 0, none⟩) 2 2, .complex .f64 0 0] 50 (0, 0))) ⟨zg, (za HB116.out.res)⟩ (fun U hU => ?_) rfl (fun U hU => ?_)
   ·obtain ⟨-, x0, x1, x2, x3, x4, -⟩ := cf5 hU.2;exact qpb
   exact HB116.out.fin HH115.out hU.1 qg qg
 ·go_wp2_with fail
  have hk := kD (k0 [] w5_);have HB118 := zh (HB6.out.kp hk);clear hk HB6
  go_region_held3 (fun V => ∀ j : Nat, j < 6 → V.cell? ⟨2, j, none⟩ = some (.string (M.tb 2 j))) (first
    | exact HB128.out.tabK zg 2 qg
    | exact HB126.out.tabK zg 2 qg
    | exact HB124.out.tabK zg 2 qg
    | exact HB122.out.tabK zg 2 qg
    | exact HB120.out.tabK zg 2 qg
    | exact HB118.out.tabK zg 2 qg)
   (first
    | (
        go_at_call 29
        refine (one_any HB118.out.fix HB118.out.mak qg 6 qg qg).mono ?_;rintro r w119_ ⟨q, hq_q, rfl, hm, hk⟩;have HB120 := zh (HB118.out.call hm hk);clear hk hm HB118;have hi_q : (q : Int) < 6 := by omega)
    | (
        go_at_call 30
        refine (HE.out _ _ HB120.out.here qg).mono ?_;rintro r w121_ ⟨v, rfl, hn, hm, hk⟩;obtain ⟨k121, nm121, nu121, a121, l121, c121, re121, im121, rfl⟩ := hn.shape;have HB122 := zh (HB120.out.call hm hk);have HN121 := zh (HB120.out.node hn);clear hn;clear hk hm HB120)
    | (
        go_at_call 30
        refine (HE.out _ _ HB122.out.here qg).mono ?_;rintro r w123_ ⟨v, rfl, hn, hm, hk⟩;obtain ⟨k123, nm123, nu123, a123, l123, c123, re123, im123, rfl⟩ := hn.shape;have HB124 := zh (HB122.out.call hm hk);have HN124_n121 := zh (HB122.out.nd hk HN121.out);have HN123 := zh (HB122.out.node hn);clear hn;clear hk hm HB122 HN121)
    | (
        go_at_call 32
        refine calls_at (fun V => Keeps [] w123_ V ∧ V.heap[w123_.heap.size]? = some (.cells #[.int .i64 k121, .string nm121, .float .f64 nu121, .slice a121 l121 c121, .complex .f64 re121 im121, .int .i64 k123, .string nm123, .float .f64 nu123, .slice a123 l123 c123, .complex .f64 re123 im123] 50 (0, 0))) ⟨zg, ja⟩ ?_;rintro w125_ ⟨hk, hr⟩;have HB126 := zh (HB124.out.kp hk);have HN126_n121 := zh (HN124_n121.out.step hk jg);have HN126_n123 := zh (HN123.out.step hk jg);have HK125 := zh (Kd.row2 hr HB124.out.b HN126_n121.out HN126_n123.out);clear hr;clear hk HB124 HN124_n121 HN123;clear HN126_n121;clear HN126_n123;refine jrb ?_;rintro r w127_ ⟨rfl, hk⟩;have HB128 := zh (HB126.out.kp hk);have HK128 := zh (HK125.out.step hk jg);clear hk HB126 HK125;have HH127 : Hid (Nd (w.heap.size + 1) _ w127_ (.agg #[.int .i64 15, .string (M.tb 2 q), .float .f64 0, .slice (some ⟨w123_.heap.size, 0, none⟩) 2 2, .complex .f64 0 0])) := zh (HK128.out.mk zi);clear HK128;obtain ⟨l_R, xR_0, xR_1, xR_2, xR_3, xR_4, yR_0, yR_1, yR_2, yR_3, yR_4⟩ := cf5 HB128.out.res))
  all_goals
   go_wp2_with fail
   refine ret_at (v := .agg #[.int .i64 15, .string (M.tb 2 q), .float .f64 0, .slice (some ⟨w123_.heap.size, 0, none⟩) 2 2, .complex .f64 0 0]) (fun U => Keeps [w.heap.size] w127_ U ∧ U.heap[w.heap.size]? = some (.cells #[.int .i64 15, .string (M.tb 2 q), .float .f64 0, .slice (some ⟨w123_.heap.size, 0, none⟩) 2 2, .complex .f64 0 0] 50 (0, 0))) ⟨zg, (za HB128.out.res)⟩ (fun U hU => ?_) rfl (fun U hU => ?_)
   ·obtain ⟨-, x0, x1, x2, x3, x4, -⟩ := cf5 hU.2;exact qpb
   exact HB128.out.fin HH127.out hU.1 qg qg
 ·go_wp2_with fail
  have hk := kD (k0 [] w5_);have HB130 := zh (HB6.out.kp hk);clear hk HB6
  go_region_held3 (fun _ => True) (trivial)
   (first
    | (
        go_at_call 29
        refine (one_any HB130.out.fix HB130.out.mak qg 3 qg qg).mono ?_;rintro r w131_ ⟨q, hq_q, rfl, hm, hk⟩;have HB132 := zh (HB130.out.call hm hk);clear hk hm HB130;have hi_q : (q : Int) < 3 := by omega)
    | (
        go_at_call 30
        refine (HE.out _ _ HB132.out.here qg).mono ?_;rintro r w133_ ⟨v, rfl, hn, hm, hk⟩;obtain ⟨k133, nm133, nu133, a133, l133, c133, re133, im133, rfl⟩ := hn.shape;have HB134 := zh (HB132.out.call hm hk);have HN133 := zh (HB132.out.node hn);clear hn;clear hk hm HB132)
    | (
        go_at_call 32
        refine calls_at (fun V => Keeps [] w133_ V ∧ V.heap[w133_.heap.size]? = some (.cells #[.int .i64 k133, .string nm133, .float .f64 nu133, .slice a133 l133 c133, .complex .f64 re133 im133] 50 (0, 0))) ⟨zg, ja⟩ ?_;rintro w135_ ⟨hk, hr⟩;have HB136 := zh (HB134.out.kp hk);have HN136_n133 := zh (HN133.out.step hk jg);have HK135 := zh (Kd.row1 hr HB134.out.b HN136_n133.out);clear hr;clear hk HB134 HN133;clear HN136_n133;refine jrb ?_;rintro r w137_ ⟨rfl, hk⟩;have HB138 := zh (HB136.out.kp hk);have HK138 := zh (HK135.out.step hk jg);clear hk HB136 HK135;have HH137 : Hid (Nd (w.heap.size + 1) _ w137_ (.agg #[.int .i64 16, .string (pickS [⟨#[33]⟩, ⟨#[45]⟩, ⟨#[43]⟩] q), .float .f64 0, .slice (some ⟨w133_.heap.size, 0, none⟩) 1 1, .complex .f64 0 0])) := zh (HK138.out.mk zi);clear HK138;obtain ⟨l_R, xR_0, xR_1, xR_2, xR_3, xR_4, yR_0, yR_1, yR_2, yR_3, yR_4⟩ := cf5 HB138.out.res))
  all_goals
   go_wp2_with fail
   refine ret_at (v := .agg #[.int .i64 16, .string (pickS [⟨#[33]⟩, ⟨#[45]⟩, ⟨#[43]⟩] q), .float .f64 0, .slice (some ⟨w133_.heap.size, 0, none⟩) 1 1, .complex .f64 0 0]) (fun U => Keeps [w.heap.size] w137_ U ∧ U.heap[w.heap.size]? = some (.cells #[.int .i64 16, .string (pickS [⟨#[33]⟩, ⟨#[45]⟩, ⟨#[43]⟩] q), .float .f64 0, .slice (some ⟨w133_.heap.size, 0, none⟩) 1 1, .complex .f64 0 0] 50 (0, 0))) ⟨zg, (za HB138.out.res)⟩ (fun U hU => ?_) rfl (fun U hU => ?_)
   ·obtain ⟨-, x0, x1, x2, x3, x4, -⟩ := cf5 hU.2;exact qpb
   exact HB138.out.fin HH137.out hU.1 qg qg
 ·go_wp2_with fail
  have hk := kD (k0 [] w5_);have HB140 := zh (HB6.out.kp hk);clear hk HB6
  go_region_held3 (fun _ => True) (trivial)
   (first
    | (
        go_at_call 29
        refine (one_int HB140.out.fix HB140.out.mak qg 2 qg qg).mono ?_;rintro r w141_ ⟨y, h0_y, h1_y, rfl, hm, hk⟩;have HB142 := zh (HB140.out.call hm hk);clear hk hm HB140;have hy17 : IntKind.i64.wrap (17 + y) = 17 + y := wrap_id qg qg)
    | (
        go_at_call 29
        refine (one_any HB142.out.fix HB142.out.mak qg 2 qg qg).mono ?_;rintro r w143_ ⟨q, hq_q, rfl, hm, hk⟩;have HB144 := zh (HB142.out.call hm hk);clear hk hm HB142;have hi_q : (q : Int) < 2 := by omega)
    | (
        go_at_call 54
        refine (HLV.out _ _ HB144.out.here qg).mono ?_;rintro r w145_ ⟨v, rfl, hn, hm, hk⟩;obtain ⟨k145, nm145, nu145, a145, l145, c145, re145, im145, rfl⟩ := hn.shape;have HB146 := zh (HB144.out.call hm hk);have HN145 := zh (HB144.out.node hn);clear hn;clear hk hm HB144)
    | (
        go_at_call 32
        refine calls_at (fun V => Keeps [] w145_ V ∧ V.heap[w145_.heap.size]? = some (.cells #[.int .i64 k145, .string nm145, .float .f64 nu145, .slice a145 l145 c145, .complex .f64 re145 im145] 50 (0, 0))) ⟨zg, ja⟩ ?_;rintro w147_ ⟨hk, hr⟩;have HB148 := zh (HB146.out.kp hk);have HN148_n145 := zh (HN145.out.step hk jg);have HK147 := zh (Kd.row1 hr HB146.out.b HN148_n145.out);clear hr;clear hk HB146 HN145;clear HN148_n145;refine jrb ?_;rintro r w149_ ⟨rfl, hk⟩;have HB150 := zh (HB148.out.kp hk);have HK150 := zh (HK147.out.step hk jg);clear hk HB148 HK147;have HH149 : Hid (Nd (w.heap.size + 1) _ w149_ (.agg #[.int .i64 (17 + y), .string (pickS [⟨#[43, 43]⟩, ⟨#[45, 45]⟩] q), .float .f64 0, .slice (some ⟨w145_.heap.size, 0, none⟩) 1 1, .complex .f64 0 0])) := zh (HK150.out.mk qg);clear HK150;obtain ⟨l_R, xR_0, xR_1, xR_2, xR_3, xR_4, yR_0, yR_1, yR_2, yR_3, yR_4⟩ := cf5 HB150.out.res))
  all_goals
   go_wp2_with fail
   refine ret_at (v := .agg #[.int .i64 (17 + y), .string (pickS [⟨#[43, 43]⟩, ⟨#[45, 45]⟩] q), .float .f64 0, .slice (some ⟨w145_.heap.size, 0, none⟩) 1 1, .complex .f64 0 0]) (fun U => Keeps [w.heap.size] w149_ U ∧ U.heap[w.heap.size]? = some (.cells #[.int .i64 (17 + y), .string (pickS [⟨#[43, 43]⟩, ⟨#[45, 45]⟩] q), .float .f64 0, .slice (some ⟨w145_.heap.size, 0, none⟩) 1 1, .complex .f64 0 0] 50 (0, 0))) ⟨zg, (za HB150.out.res)⟩ (fun U hU => ?_) rfl (fun U hU => ?_)
   ·obtain ⟨-, x0, x1, x2, x3, x4, -⟩ := cf5 hU.2;exact qpb
   exact HB150.out.fin HH149.out hU.1 qg qg
 ·go_wp2_with fail
  refine (HLV.out _ _ HB6.out.here qg).mono ?_;exact jkd
 ·go_wp2_with fail
  refine (one_any HB6.out.fix HB6.out.mak qg 8 qg qg).mono ?_;rintro r w153_ ⟨q, hq_q, rfl, hm, hk⟩;have HB154 := zh (HB6.out.call hm hk);clear hk hm HB6;have ht_q := MKB.tab HB154.out.fix HB154.out.mak (g := 3) (j := q) qg hq_q;have hi_q : (q : Int) < 8 := by omega
  go_wp2_with fail
  clear ht_q hi_q;refine jrb ?_;rintro r w155_ ⟨rfl, hk⟩;have HB156 := zh (HB154.out.kp hk);clear hk HB154;have HH155 : Hid (Nd (w.heap.size + 1) 1 w155_ (.agg #[.int .i64 3, .string (M.tb 3 q), .float .f64 0, .slice none 0 0, .complex .f64 0 0])) := zh (Nd.leaf _ _ _ _ _ _ _);obtain ⟨l_R, xR_0, xR_1, xR_2, xR_3, xR_4, yR_0, yR_1, yR_2, yR_3, yR_4⟩ := cf5 HB156.out.res
  go_wp2_with fail
  refine ret_at (v := .agg #[.int .i64 3, .string (M.tb 3 q), .float .f64 0, .slice none 0 0, .complex .f64 0 0]) (fun U => Keeps [w.heap.size] w155_ U ∧ U.heap[w.heap.size]? = some (.cells #[.int .i64 3, .string (M.tb 3 q), .float .f64 0, .slice none 0 0, .complex .f64 0 0] 50 (0, 0))) ⟨zg, (za HB156.out.res)⟩ (fun U hU => ?_) rfl (fun U hU => ?_)
  ·obtain ⟨-, x0, x1, x2, x3, x4, -⟩ := cf5 hU.2;exact qpb
  exact HB156.out.fin HH155.out hU.1 qg qg
 ·go_wp2_with fail
  refine (one_int HB6.out.fix HB6.out.mak qg 3 qg qg).mono ?_;rintro r w157_ ⟨y, h0_y, h1_y, rfl, hm, hk⟩;have HB158 := zh (HB6.out.call hm hk);clear hk hm HB6;clear h0_y h1_y
  by_cases hy0 : y = 0
  ·subst hy0
   go_wp2_with fail
   refine (HE.out _ _ HB158.out.here qg).mono ?_;rintro r w159_ ⟨v, rfl, hn, hm, hk⟩;obtain ⟨k159, nm159, nu159, a159, l159, c159, re159, im159, rfl⟩ := hn.shape;have HB160 := zh (HB158.out.call hm hk);have HN159 := zh (HB158.out.node hn);clear hn;clear hk hm HB158
   go_wp2_with fail
   refine (array_any HB160.out.here qg).mono ?_;rintro r w161_ ⟨s161, rfl, hm, hk⟩;have HB162 := zh (HB160.out.call hm hk);have HN162_n159 := zh (HB160.out.nd hk HN159.out);clear hk hm HB160 HN159
   go_wp2_with fail
   refine jrb ?_;rintro r w163_ ⟨rfl, hk⟩;have HB164 := zh (HB162.out.kp hk);have HN164_n159 := zh (HN162_n159.out.step hk jg);clear hk HB162 HN162_n159;have HH163 : Hid (Nd (w.heap.size + 1) 1 w163_ (.agg #[.int .i64 4, .string s161, .float .f64 0, .slice none 0 0, .complex .f64 0 0])) := zh (Nd.leaf _ _ _ _ _ _ _)
   go_wp2_with fail
   refine calls_at (fun V => Keeps [] w163_ V ∧ V.heap[w163_.heap.size]? = some (.cells #[.int .i64 k159, .string nm159, .float .f64 nu159, .slice a159 l159 c159, .complex .f64 re159 im159, .int .i64 4, .string s161, .float .f64 0, .slice none 0 0, .complex .f64 0 0] 50 (0, 0))) ⟨zg, ja⟩ ?_;rintro w165_ ⟨hk, hr⟩;have HB166 := zh (HB164.out.kp hk);have HN166_n159 := zh (HN164_n159.out.step hk jg);have HN166_h163 := zh (HH163.out.step hk jg);have HK165 := zh (Kd.row2 hr HB164.out.b HN166_n159.out HN166_h163.out);clear hr;clear hk HB164 HN164_n159 HH163;clear HN166_n159;clear HN166_h163;refine jrb ?_;rintro r w167_ ⟨rfl, hk⟩;have HB168 := zh (HB166.out.kp hk);have HK168 := zh (HK165.out.step hk jg);clear hk HB166 HK165;have HH167 : Hid (Nd (w.heap.size + 1) _ w167_ (.agg #[.int .i64 19, .string ⟨#[102]⟩, .float .f64 0, .slice (some ⟨w163_.heap.size, 0, none⟩) 2 2, .complex .f64 0 0])) := zh (HK168.out.mk zi);clear HK168;obtain ⟨l_R, xR_0, xR_1, xR_2, xR_3, xR_4, yR_0, yR_1, yR_2, yR_3, yR_4⟩ := cf5 HB168.out.res
   go_wp2_with fail
   refine ret_at (v := .agg #[.int .i64 19, .string ⟨#[102]⟩, .float .f64 0, .slice (some ⟨w163_.heap.size, 0, none⟩) 2 2, .complex .f64 0 0]) (fun U => Keeps [w.heap.size] w167_ U ∧ U.heap[w.heap.size]? = some (.cells #[.int .i64 19, .string ⟨#[102]⟩, .float .f64 0, .slice (some ⟨w163_.heap.size, 0, none⟩) 2 2, .complex .f64 0 0] 50 (0, 0))) ⟨zg, (za HB168.out.res)⟩ (fun U hU => ?_) rfl (fun U hU => ?_)
   ·obtain ⟨-, x0, x1, x2, x3, x4, -⟩ := cf5 hU.2;exact qpb
   exact HB168.out.fin HH167.out hU.1 qg qg
  have hy : (y == 0) = false := beq_false_of_ne hy0
  go_wp2_with fail
  refine (HE.out _ _ HB158.out.here qg).mono ?_;rintro r w169_ ⟨v, rfl, hn, hm, hk⟩;obtain ⟨k169, nm169, nu169, a169, l169, c169, re169, im169, rfl⟩ := hn.shape;have HB170 := zh (HB158.out.call hm hk);have HN169 := zh (HB158.out.node hn);clear hn;clear hk hm HB158
  go_wp2_with fail
  refine calls_at (fun V => Keeps [] w169_ V ∧ V.heap[w169_.heap.size]? = some (.cells #[.int .i64 k169, .string nm169, .float .f64 nu169, .slice a169 l169 c169, .complex .f64 re169 im169] 50 (0, 0))) ⟨zg, ja⟩ ?_;rintro w171_ ⟨hk, hr⟩;have HB172 := zh (HB170.out.kp hk);have HN172_n169 := zh (HN169.out.step hk jg);have HK171 := zh (Kd.row1 hr HB170.out.b HN172_n169.out);clear hr;clear hk HB170 HN169;clear HN172_n169;refine jrb ?_;rintro r w173_ ⟨rfl, hk⟩;have HB174 := zh (HB172.out.kp hk);have HK174 := zh (HK171.out.step hk jg);clear hk HB172 HK171;have HH173 : Hid (Nd (w.heap.size + 1) _ w173_ (.agg #[.int .i64 19, .string ⟨#[103]⟩, .float .f64 0, .slice (some ⟨w169_.heap.size, 0, none⟩) 1 1, .complex .f64 0 0])) := zh (HK174.out.mk zi);clear HK174;obtain ⟨l_R, xR_0, xR_1, xR_2, xR_3, xR_4, yR_0, yR_1, yR_2, yR_3, yR_4⟩ := cf5 HB174.out.res
  go_wp2_with fail
  refine ret_at (v := .agg #[.int .i64 19, .string ⟨#[103]⟩, .float .f64 0, .slice (some ⟨w169_.heap.size, 0, none⟩) 1 1, .complex .f64 0 0]) (fun U => Keeps [w.heap.size] w173_ U ∧ U.heap[w.heap.size]? = some (.cells #[.int .i64 19, .string ⟨#[103]⟩, .float .f64 0, .slice (some ⟨w169_.heap.size, 0, none⟩) 1 1, .complex .f64 0 0] 50 (0, 0))) ⟨zg, (za HB174.out.res)⟩ (fun U hU => ?_) rfl (fun U hU => ?_)
  ·obtain ⟨-, x0, x1, x2, x3, x4, -⟩ := cf5 hU.2;exact qpb
  exact HB174.out.fin HH173.out hU.1 qg qg
 go_wp2_with fail
 refine (HBU.out _ _ HB6.out.here qg).mono ?_;rintro r w175_ ⟨v, rfl, hn, hm, hk⟩;obtain ⟨k175, nm175, nu175, a175, l175, c175, re175, im175, rfl⟩ := hn.shape;have HB176 := zh (HB6.out.call hm hk);have HN175 := zh (HB6.out.node hn);clear hn;clear hk hm HB6;obtain ⟨l_R, xR_0, xR_1, xR_2, xR_3, xR_4, yR_0, yR_1, yR_2, yR_3, yR_4⟩ := cf5 HB176.out.res
 go_wp2_with fail
 refine ret_at (v := .agg #[.int .i64 k175, .string nm175, .float .f64 nu175, .slice a175 l175 c175, .complex .f64 re175 im175]) (fun U => Keeps [w.heap.size] w175_ U ∧ U.heap[w.heap.size]? = some (.cells #[.int .i64 k175, .string nm175, .float .f64 nu175, .slice a175 l175 c175, .complex .f64 re175 im175] 50 (0, 0))) ⟨zg, (za HB176.out.res)⟩ (fun U hU => ?_) rfl (fun U hU => ?_)
 ·obtain ⟨-, x0, x1, x2, x3, x4, -⟩ := cf5 hU.2;exact qpb
 exact HB176.out.fin HN175.out hU.1 qg qg
end Go.Proofs.YtkfillfkbhbbjaaGreatDoor
