/- MkN. -/
import Derived.Test.YtkfillfkbhbbjaaGreatDoorMkM
set_option maxRecDepth 100000
set_option maxHeartbeats 4000000
set_option linter.unusedSimpArgs false
set_option linter.unusedVariables false
namespace Go.Proofs.YtkfillfkbhbbjaaGreatDoor
open Go.RowKit
set_option maxHeartbeats 8000000 in
theorem stmt_any {M : MKey} {I : Nat} {fn : Bool} {w : World} (h : Bn M I fn w w) {d : Int} (hd : -1000 ≤ d ∧ d ≤ 1000) {Z1 K1 Z2 K2 ZE KE ZB KB KL Z' K' : Nat} (hE : ExprC M fn 2 ZE KE) (h1 : NodeCs 89 M fn 1 Z1 K1) (h2 : NodeCs 89 M fn 2 Z2 K2) (hB : NodeCs 31 M fn (d - 1) ZB KB) (hL : NodeCs 90 M fn (d - 1) ZB KL) (hZ : Z1 ≤ Z' ∧ Z2 ≤ Z' ∧ ZE + 2 * ZB + 1 ≤ Z' ∧ ZB + 12 ≤ Z') (hK : K1 + K2 + KE + 2 * KB + KL + 60 ≤ K') (hI : I + K' ≤ 1000000000000) : Calls Tryz.prog 58 #[.pointer (some ⟨M.k, 0, none⟩), .int .i64 d] w fun r w' => NodeP M Z' K' I fn w r w' := by
 have H0 := zh h;clear h
 go_enter Tryz.func58, Tryz.ntmps58
 have HE := zh hE; have HS1 := zh h1; have HS2 := zh h2; have HBK := zh hB; have HLO := zh hL; have H_lt := zh H0.out.lt;clear hE h1 h2 hB hL;have hdw : IntKind.i64.wrap (d - 1) = d - 1 := wrap_id qg qg
 go_upto_region 1 with fail
 refine jyb ?_;rintro w1 ⟨hk, hr⟩;have HB1 := zh (BnR.start H0.out hk hr);clear hk hr H0;obtain ⟨i, nn, l, hi, hn, hl1, hl2, hmk⟩ := HB1.out.mak;obtain ⟨l_k, x0, x1, x2, x3, x4, y0, y1, y2, y3, y4⟩ := cf5 hmk.row;clear hmk x0 x1 x3 x4 y0 y1 y2 y3 y4 hi hn hl1 hl2;have hx := HB1.out.b;clear hx
 by_cases hd0 : d ≤ 0
 ·have e0 : decide (d ≤ 0) = true := by simp [hd0]
  go_wp2_with fail
  refine (HS1.out _ _ HB1.out.here qg).mono ?_;exact zhd
 by_cases hn1 : 120 < nn
 ·have hn2 : (120 : Int) < (nn : Int) := by omega
  go_wp2_with fail
  refine (HS1.out _ _ HB1.out.here qg).mono ?_;exact qsd
 have hn2 : ¬ (120 : Int) < (nn : Int) := by omega
 go_wp2_with fail
 refine (one_int HB1.out.fix HB1.out.mak qg 18 qg qg).mono ?_;rintro r w5_ ⟨z, h0_z, h1_z, rfl, hm, hk⟩;have HB6 := zh (HB1.out.call hm hk);clear hk hm HB1;clear hn2 hn1 x2 l_k;have hz : z = 0 ∨ z = 1 ∨ z = 2 ∨ z = 3 ∨ z = 4 ∨ z = 5 ∨ z = 6 ∨ z = 7 ∨ z = 8 ∨ z = 9 ∨ z = 10 ∨ z = 11 ∨ z = 12 ∨ z = 13 ∨ z = 14 ∨ z = 15 ∨ z = 16 ∨ z = 17 := by omega
 clear h0_z h1_z
 rcases hz with rfl | rfl | rfl | rfl | rfl | rfl | rfl | rfl | rfl | rfl | rfl | rfl | rfl | rfl | rfl | rfl | rfl | rfl
 ·go_wp2_with fail
  refine qvb ?_;rintro r w7_ ⟨v, rfl, hn, hm, hk⟩;obtain ⟨k7, nm7, nu7, a7, l7, c7, re7, im7, rfl⟩ := hn.shape;have HB8 := zh (HB6.out.call hm hk);have HN7 := zh (HB6.out.node hn);clear hn;clear hk hm HB6
  go_wp2_with fail
  refine (HBK.out _ _ HB8.out.here qg).mono ?_;rintro r w9_ ⟨v, rfl, hn, hm, hk⟩;obtain ⟨k9, nm9, nu9, a9, l9, c9, re9, im9, rfl⟩ := hn.shape;have HB10 := zh (HB8.out.call hm hk);have HN10_n7 := zh (HB8.out.nd hk HN7.out);have HN9 := zh (HB8.out.node hn);clear hn;clear hk hm HB8 HN7
  go_wp2_with fail
  refine calls_at (fun V => Keeps [] w9_ V ∧ V.heap[w9_.heap.size]? = some (.cells #[.int .i64 k7, .string nm7, .float .f64 nu7, .slice a7 l7 c7, .complex .f64 re7 im7, .int .i64 k9, .string nm9, .float .f64 nu9, .slice a9 l9 c9, .complex .f64 re9 im9] 50 (0, 0))) ⟨zg, ja⟩ ?_;rintro w11_ ⟨hk, hr⟩;have HB12 := zh (HB10.out.kp hk);have HN12_n7 := zh (HN10_n7.out.step hk jg);have HN12_n9 := zh (HN9.out.step hk jg);have HK11 := zh (Kd.row2 hr HB10.out.b HN12_n7.out HN12_n9.out);clear hr;clear hk HB10 HN10_n7 HN9;clear HN12_n7;clear HN12_n9;refine jrb ?_;rintro r w13_ ⟨rfl, hk⟩;have HB14 := zh (HB12.out.kp hk);have HK14 := zh (HK11.out.step hk jg);clear hk HB12 HK11;have HH13 : Hid (Nd (w.heap.size + 1) _ w13_ (.agg #[.int .i64 31, .string ⟨#[]⟩, .float .f64 0, .slice (some ⟨w9_.heap.size, 0, none⟩) 2 2, .complex .f64 0 0])) := zh (HK14.out.mk zi);clear HK14;obtain ⟨l_R, xR_0, xR_1, xR_2, xR_3, xR_4, yR_0, yR_1, yR_2, yR_3, yR_4⟩ := cf5 HB14.out.res
  go_wp2_with fail
  refine ret_at (v := .agg #[.int .i64 31, .string ⟨#[]⟩, .float .f64 0, .slice (some ⟨w9_.heap.size, 0, none⟩) 2 2, .complex .f64 0 0]) (fun U => Keeps [w.heap.size] w13_ U ∧ U.heap[w.heap.size]? = some (.cells #[.int .i64 31, .string ⟨#[]⟩, .float .f64 0, .slice (some ⟨w9_.heap.size, 0, none⟩) 2 2, .complex .f64 0 0] 50 (0, 0))) ⟨zg, (za HB14.out.res)⟩ (fun U hU => ?_) rfl (fun U hU => ?_)
  ·obtain ⟨-, x0, x1, x2, x3, x4, -⟩ := cf5 hU.2;exact qpb
  exact HB14.out.fin HH13.out hU.1 qg qg
 ·go_wp2_with fail
  refine qvb ?_;rintro r w15_ ⟨v, rfl, hn, hm, hk⟩;obtain ⟨k15, nm15, nu15, a15, l15, c15, re15, im15, rfl⟩ := hn.shape;have HB16 := zh (HB6.out.call hm hk);have HN15 := zh (HB6.out.node hn);clear hn;clear hk hm HB6
  go_wp2_with fail
  refine (HBK.out _ _ HB16.out.here qg).mono ?_;rintro r w17_ ⟨v, rfl, hn, hm, hk⟩;obtain ⟨k17, nm17, nu17, a17, l17, c17, re17, im17, rfl⟩ := hn.shape;have HB18 := zh (HB16.out.call hm hk);have HN18_n15 := zh (HB16.out.nd hk HN15.out);have HN17 := zh (HB16.out.node hn);clear hn;clear hk hm HB16 HN15
  go_wp2_with fail
  refine calls_at (fun V => Keeps [] w17_ V ∧ V.heap[w17_.heap.size]? = some (.cells #[.int .i64 k15, .string nm15, .float .f64 nu15, .slice a15 l15 c15, .complex .f64 re15 im15, .int .i64 k17, .string nm17, .float .f64 nu17, .slice a17 l17 c17, .complex .f64 re17 im17] 50 (0, 0))) ⟨zg, ja⟩ ?_;rintro w19_ ⟨hk, hr⟩;have HB20 := zh (HB18.out.kp hk);have HN20_n15 := zh (HN18_n15.out.step hk jg);have HN20_n17 := zh (HN17.out.step hk jg);have HK19 := zh (Kd.row2 hr HB18.out.b HN20_n15.out HN20_n17.out);clear hr;clear hk HB18 HN18_n15 HN17;clear HN20_n15;clear HN20_n17;refine jrb ?_;rintro r w21_ ⟨rfl, hk⟩;have HB22 := zh (HB20.out.kp hk);have HK22 := zh (HK19.out.step hk jg);clear hk HB20 HK19;have HH21 : Hid (Nd (w.heap.size + 1) _ w21_ (.agg #[.int .i64 31, .string ⟨#[]⟩, .float .f64 0, .slice (some ⟨w17_.heap.size, 0, none⟩) 2 2, .complex .f64 0 0])) := zh (HK22.out.mk zi);clear HK22;obtain ⟨l_R, xR_0, xR_1, xR_2, xR_3, xR_4, yR_0, yR_1, yR_2, yR_3, yR_4⟩ := cf5 HB22.out.res
  go_wp2_with fail
  refine ret_at (v := .agg #[.int .i64 31, .string ⟨#[]⟩, .float .f64 0, .slice (some ⟨w17_.heap.size, 0, none⟩) 2 2, .complex .f64 0 0]) (fun U => Keeps [w.heap.size] w21_ U ∧ U.heap[w.heap.size]? = some (.cells #[.int .i64 31, .string ⟨#[]⟩, .float .f64 0, .slice (some ⟨w17_.heap.size, 0, none⟩) 2 2, .complex .f64 0 0] 50 (0, 0))) ⟨zg, (za HB22.out.res)⟩ (fun U hU => ?_) rfl (fun U hU => ?_)
  ·obtain ⟨-, x0, x1, x2, x3, x4, -⟩ := cf5 hU.2;exact qpb
  exact HB22.out.fin HH21.out hU.1 qg qg
 ·go_wp2_with fail
  refine qvb ?_;rintro r w23_ ⟨v, rfl, hn, hm, hk⟩;obtain ⟨k23, nm23, nu23, a23, l23, c23, re23, im23, rfl⟩ := hn.shape;have HB24 := zh (HB6.out.call hm hk);have HN23 := zh (HB6.out.node hn);clear hn;clear hk hm HB6
  go_wp2_with fail
  refine (HBK.out _ _ HB24.out.here qg).mono ?_;rintro r w25_ ⟨v, rfl, hn, hm, hk⟩;obtain ⟨k25, nm25, nu25, a25, l25, c25, re25, im25, rfl⟩ := hn.shape;have HB26 := zh (HB24.out.call hm hk);have HN26_n23 := zh (HB24.out.nd hk HN23.out);have HN25 := zh (HB24.out.node hn);clear hn;clear hk hm HB24 HN23
  go_wp2_with fail
  refine (HBK.out _ _ HB26.out.here qg).mono ?_;rintro r w27_ ⟨v, rfl, hn, hm, hk⟩;obtain ⟨k27, nm27, nu27, a27, l27, c27, re27, im27, rfl⟩ := hn.shape;have HB28 := zh (HB26.out.call hm hk);have HN28_n23 := zh (HB26.out.nd hk HN26_n23.out);have HN28_n25 := zh (HB26.out.nd hk HN25.out);have HN27 := zh (HB26.out.node hn);clear hn;clear hk hm HB26 HN26_n23 HN25
  go_wp2_with fail
  refine calls_at (fun V => Keeps [] w27_ V ∧ V.heap[w27_.heap.size]? = some (.cells #[.int .i64 k23, .string nm23, .float .f64 nu23, .slice a23 l23 c23, .complex .f64 re23 im23, .int .i64 k25, .string nm25, .float .f64 nu25, .slice a25 l25 c25, .complex .f64 re25 im25, .int .i64 k27, .string nm27, .float .f64 nu27, .slice a27 l27 c27, .complex .f64 re27 im27] 50 (0, 0))) ⟨zg, ja⟩ ?_;rintro w29_ ⟨hk, hr⟩;have HB30 := zh (HB28.out.kp hk);have HN30_n23 := zh (HN28_n23.out.step hk jg);have HN30_n25 := zh (HN28_n25.out.step hk jg);have HN30_n27 := zh (HN27.out.step hk jg);have HK29 := zh (Kd.row3 hr HB28.out.b HN30_n23.out HN30_n25.out HN30_n27.out);clear hr;clear hk HB28 HN28_n23 HN28_n25 HN27;clear HN30_n23;clear HN30_n25;clear HN30_n27;refine jrb ?_;rintro r w31_ ⟨rfl, hk⟩;have HB32 := zh (HB30.out.kp hk);have HK32 := zh (HK29.out.step hk jg);clear hk HB30 HK29;have HH31 : Hid (Nd (w.heap.size + 1) _ w31_ (.agg #[.int .i64 31, .string ⟨#[]⟩, .float .f64 0, .slice (some ⟨w27_.heap.size, 0, none⟩) 3 3, .complex .f64 0 0])) := zh (HK32.out.mk zi);clear HK32;obtain ⟨l_R, xR_0, xR_1, xR_2, xR_3, xR_4, yR_0, yR_1, yR_2, yR_3, yR_4⟩ := cf5 HB32.out.res
  go_wp2_with fail
  refine ret_at (v := .agg #[.int .i64 31, .string ⟨#[]⟩, .float .f64 0, .slice (some ⟨w27_.heap.size, 0, none⟩) 3 3, .complex .f64 0 0]) (fun U => Keeps [w.heap.size] w31_ U ∧ U.heap[w.heap.size]? = some (.cells #[.int .i64 31, .string ⟨#[]⟩, .float .f64 0, .slice (some ⟨w27_.heap.size, 0, none⟩) 3 3, .complex .f64 0 0] 50 (0, 0))) ⟨zg, (za HB32.out.res)⟩ (fun U hU => ?_) rfl (fun U hU => ?_)
  ·obtain ⟨-, x0, x1, x2, x3, x4, -⟩ := cf5 hU.2;exact qpb
  exact HB32.out.fin HH31.out hU.1 qg qg
 ·go_wp2_with fail
  refine (one_any HB6.out.fix HB6.out.mak qg 2 qg qg).mono ?_;rintro r w33_ ⟨q, hq_q, rfl, hm, hk⟩;have HB34 := zh (HB6.out.call hm hk);clear hk hm HB6;have ht_q := MKB.tab HB34.out.fix HB34.out.mak (g := 6) (j := q) qg (show q < 4 by omega);have hi_q : (q : Int) < 4 := by omega
  go_wp2_with fail
  clear ht_q hi_q;refine jrb ?_;rintro r w35_ ⟨rfl, hk⟩;have HB36 := zh (HB34.out.kp hk);clear hk HB34;have HH35 : Hid (Nd (w.heap.size + 1) 1 w35_ (.agg #[.int .i64 4, .string (M.tb 6 q), .float .f64 0, .slice none 0 0, .complex .f64 0 0])) := zh (Nd.leaf _ _ _ _ _ _ _)
  go_wp2_with fail
  refine (num_ex _ _).mono ?_;rintro r w37_ ⟨nu37, rfl, hk⟩;have HB38 := zh (HB36.out.kp hk);have HN38_h35 := zh (HH35.out.step hk jg);clear hk HB36 HH35;have HM37 : Hid (Nd (w.heap.size + 1) 1 w37_ (.agg #[.int .i64 1, .string ⟨#[]⟩, .float .f64 nu37, .slice none 0 0, .complex .f64 0 0])) := zh (Nd.leaf _ _ _ _ _ _ _)
  go_wp2_with fail
  refine calls_at (fun V => Keeps [] w37_ V ∧ V.heap[w37_.heap.size]? = some (.cells #[.int .i64 4, .string (M.tb 6 q), .float .f64 0, .slice none 0 0, .complex .f64 0 0, .int .i64 1, .string ⟨#[]⟩, .float .f64 nu37, .slice none 0 0, .complex .f64 0 0] 50 (0, 0))) ⟨zg, ja⟩ ?_;rintro w39_ ⟨hk, hr⟩;have HB40 := zh (HB38.out.kp hk);have HN40_h35 := zh (HN38_h35.out.step hk jg);have HN40_m37 := zh (HM37.out.step hk jg);have HK39 := zh (Kd.row2 hr HB38.out.b HN40_h35.out HN40_m37.out);clear hr;clear hk HB38 HN38_h35 HM37;clear HN40_h35;clear HN40_m37;refine jrb ?_;rintro r w41_ ⟨rfl, hk⟩;have HB42 := zh (HB40.out.kp hk);have HK42 := zh (HK39.out.step hk jg);clear hk HB40 HK39;have HH41 : Hid (Nd (w.heap.size + 1) _ w41_ (.agg #[.int .i64 7, .string ⟨#[61]⟩, .float .f64 0, .slice (some ⟨w37_.heap.size, 0, none⟩) 2 2, .complex .f64 0 0])) := zh (HK42.out.mk zi);clear HK42
  go_wp2_with fail
  refine calls_at (fun V => Keeps [] w41_ V ∧ V.heap[w41_.heap.size]? = some (.cells #[.int .i64 7, .string ⟨#[61]⟩, .float .f64 0, .slice (some ⟨w37_.heap.size, 0, none⟩) 2 2, .complex .f64 0 0] 50 (0, 0))) ⟨zg, ja⟩ ?_;rintro w43_ ⟨hk, hr⟩;have HB44 := zh (HB42.out.kp hk);have HN44_h41 := zh (HH41.out.step hk jg);have HK43 := zh (Kd.row1 hr HB42.out.b HN44_h41.out);clear hr;clear hk HB42 HH41;clear HN44_h41;refine jrb ?_;rintro r w45_ ⟨rfl, hk⟩;have HB46 := zh (HB44.out.kp hk);have HK46 := zh (HK43.out.step hk jg);clear hk HB44 HK43;have HH45 : Hid (Nd (w.heap.size + 1) _ w45_ (.agg #[.int .i64 44, .string ⟨#[]⟩, .float .f64 0, .slice (some ⟨w41_.heap.size, 0, none⟩) 1 1, .complex .f64 0 0])) := zh (HK46.out.mk zi);clear HK46
  go_wp2_with fail
  refine jrb ?_;rintro r w47_ ⟨rfl, hk⟩;have HB48 := zh (HB46.out.kp hk);have HN48_h45 := zh (HH45.out.step hk jg);clear hk HB46 HH45;have HH47 : Hid (Nd (w.heap.size + 1) 1 w47_ (.agg #[.int .i64 4, .string (M.tb 6 q), .float .f64 0, .slice none 0 0, .complex .f64 0 0])) := zh (Nd.leaf _ _ _ _ _ _ _)
  go_wp2_with fail
  refine (one_any HB48.out.fix HB48.out.mak qg 5 qg qg).mono ?_;rintro r w49_ ⟨q2, hq_q2, rfl, hm, hk⟩;have HB50 := zh (HB48.out.call hm hk);have HN50_h45 := zh (HB48.out.nd hk HN48_h45.out);have HN50_h47 := zh (HB48.out.nd hk HH47.out);clear hk hm HB48 HN48_h45 HH47
  go_wp2_with fail
  refine (num_ex _ _).mono ?_;rintro r w51_ ⟨nu51, rfl, hk⟩;have HB52 := zh (HB50.out.kp hk);have HN52_h45 := zh (HN50_h45.out.step hk jg);have HN52_h47 := zh (HN50_h47.out.step hk jg);clear hk HB50 HN50_h45 HN50_h47;have HM51 : Hid (Nd (w.heap.size + 1) 1 w51_ (.agg #[.int .i64 1, .string ⟨#[]⟩, .float .f64 nu51, .slice none 0 0, .complex .f64 0 0])) := zh (Nd.leaf _ _ _ _ _ _ _)
  go_wp2_with fail
  refine calls_at (fun V => Keeps [] w51_ V ∧ V.heap[w51_.heap.size]? = some (.cells #[.int .i64 4, .string (M.tb 6 q), .float .f64 0, .slice none 0 0, .complex .f64 0 0, .int .i64 1, .string ⟨#[]⟩, .float .f64 nu51, .slice none 0 0, .complex .f64 0 0] 50 (0, 0))) ⟨zg, ja⟩ ?_;rintro w53_ ⟨hk, hr⟩;have HB54 := zh (HB52.out.kp hk);have HN54_h45 := zh (HN52_h45.out.step hk jg);have HN54_h47 := zh (HN52_h47.out.step hk jg);have HN54_m51 := zh (HM51.out.step hk jg);have HK53 := zh (Kd.row2 hr HB52.out.b HN54_h47.out HN54_m51.out);clear hr;clear hk HB52 HN52_h45 HN52_h47 HM51;clear HN54_h47;clear HN54_m51;refine jrb ?_;rintro r w55_ ⟨rfl, hk⟩;have HB56 := zh (HB54.out.kp hk);have HN56_h45 := zh (HN54_h45.out.step hk jg);have HK56 := zh (HK53.out.step hk jg);clear hk HB54 HN54_h45 HK53;have HH55 : Hid (Nd (w.heap.size + 1) _ w55_ (.agg #[.int .i64 13, .string ⟨#[60]⟩, .float .f64 0, .slice (some ⟨w51_.heap.size, 0, none⟩) 2 2, .complex .f64 0 0])) := zh (HK56.out.mk zi);clear HK56
  go_wp2_with fail
  refine jrb ?_;rintro r w57_ ⟨rfl, hk⟩;have HB58 := zh (HB56.out.kp hk);have HN58_h45 := zh (HN56_h45.out.step hk jg);have HN58_h55 := zh (HH55.out.step hk jg);clear hk HB56 HN56_h45 HH55;have HH57 : Hid (Nd (w.heap.size + 1) 1 w57_ (.agg #[.int .i64 4, .string (M.tb 6 q), .float .f64 0, .slice none 0 0, .complex .f64 0 0])) := zh (Nd.leaf _ _ _ _ _ _ _)
  go_wp2_with fail
  refine calls_at (fun V => Keeps [] w57_ V ∧ V.heap[w57_.heap.size]? = some (.cells #[.int .i64 4, .string (M.tb 6 q), .float .f64 0, .slice none 0 0, .complex .f64 0 0] 50 (0, 0))) ⟨zg, ja⟩ ?_;rintro w59_ ⟨hk, hr⟩;have HB60 := zh (HB58.out.kp hk);have HN60_h45 := zh (HN58_h45.out.step hk jg);have HN60_h55 := zh (HN58_h55.out.step hk jg);have HN60_h57 := zh (HH57.out.step hk jg);have HK59 := zh (Kd.row1 hr HB58.out.b HN60_h57.out);clear hr;clear hk HB58 HN58_h45 HN58_h55 HH57;clear HN60_h57;refine jrb ?_;rintro r w61_ ⟨rfl, hk⟩;have HB62 := zh (HB60.out.kp hk);have HN62_h45 := zh (HN60_h45.out.step hk jg);have HN62_h55 := zh (HN60_h55.out.step hk jg);have HK62 := zh (HK59.out.step hk jg);clear hk HB60 HN60_h45 HN60_h55 HK59;have HH61 : Hid (Nd (w.heap.size + 1) _ w61_ (.agg #[.int .i64 18, .string ⟨#[43, 43]⟩, .float .f64 0, .slice (some ⟨w57_.heap.size, 0, none⟩) 1 1, .complex .f64 0 0])) := zh (HK62.out.mk zi);clear HK62
  go_wp2_with fail
  refine calls_at (fun V => Keeps [] w61_ V ∧ V.heap[w61_.heap.size]? = some (.cells #[.int .i64 18, .string ⟨#[43, 43]⟩, .float .f64 0, .slice (some ⟨w57_.heap.size, 0, none⟩) 1 1, .complex .f64 0 0] 50 (0, 0))) ⟨zg, ja⟩ ?_;rintro w63_ ⟨hk, hr⟩;have HB64 := zh (HB62.out.kp hk);have HN64_h45 := zh (HN62_h45.out.step hk jg);have HN64_h55 := zh (HN62_h55.out.step hk jg);have HN64_h61 := zh (HH61.out.step hk jg);have HK63 := zh (Kd.row1 hr HB62.out.b HN64_h61.out);clear hr;clear hk HB62 HN62_h45 HN62_h55 HH61;clear HN64_h61;refine jrb ?_;rintro r w65_ ⟨rfl, hk⟩;have HB66 := zh (HB64.out.kp hk);have HN66_h45 := zh (HN64_h45.out.step hk jg);have HN66_h55 := zh (HN64_h55.out.step hk jg);have HK66 := zh (HK63.out.step hk jg);clear hk HB64 HN64_h45 HN64_h55 HK63;have HH65 : Hid (Nd (w.heap.size + 1) _ w65_ (.agg #[.int .i64 44, .string ⟨#[]⟩, .float .f64 0, .slice (some ⟨w61_.heap.size, 0, none⟩) 1 1, .complex .f64 0 0])) := zh (HK66.out.mk zi);clear HK66
  go_wp2_with fail
  refine (HLO.out _ _ HB66.out.here qg).mono ?_;rintro r w67_ ⟨v, rfl, hn, hm, hk⟩;obtain ⟨k67, nm67, nu67, a67, l67, c67, re67, im67, rfl⟩ := hn.shape;have HB68 := zh (HB66.out.call hm hk);have HN68_h45 := zh (HB66.out.nd hk HN66_h45.out);have HN68_h55 := zh (HB66.out.nd hk HN66_h55.out);have HN68_h65 := zh (HB66.out.nd hk HH65.out);have HN67 := zh (HB66.out.node hn);clear hn;clear hk hm HB66 HN66_h45 HN66_h55 HH65
  go_wp2_with fail
  refine calls_at (fun V => Keeps [] w67_ V ∧ V.heap[w67_.heap.size]? = some (.cells #[.int .i64 44, .string ⟨#[]⟩, .float .f64 0, .slice (some ⟨w41_.heap.size, 0, none⟩) 1 1, .complex .f64 0 0, .int .i64 13, .string ⟨#[60]⟩, .float .f64 0, .slice (some ⟨w51_.heap.size, 0, none⟩) 2 2, .complex .f64 0 0, .int .i64 44, .string ⟨#[]⟩, .float .f64 0, .slice (some ⟨w61_.heap.size, 0, none⟩) 1 1, .complex .f64 0 0, .int .i64 k67, .string nm67, .float .f64 nu67, .slice a67 l67 c67, .complex .f64 re67 im67] 50 (0, 0))) ⟨zg, ja⟩ ?_;rintro w69_ ⟨hk, hr⟩;have HB70 := zh (HB68.out.kp hk);have HN70_h45 := zh (HN68_h45.out.step hk jg);have HN70_h55 := zh (HN68_h55.out.step hk jg);have HN70_h65 := zh (HN68_h65.out.step hk jg);have HN70_n67 := zh (HN67.out.step hk jg);have HK69 := zh (Kd.row4 hr HB68.out.b HN70_h45.out HN70_h55.out HN70_h65.out HN70_n67.out);clear hr;clear hk HB68 HN68_h45 HN68_h55 HN68_h65 HN67;clear HN70_h45;clear HN70_h55;clear HN70_h65;clear HN70_n67;refine jrb ?_;rintro r w71_ ⟨rfl, hk⟩;have HB72 := zh (HB70.out.kp hk);have HK72 := zh (HK69.out.step hk jg);clear hk HB70 HK69;have HH71 : Hid (Nd (w.heap.size + 1) _ w71_ (.agg #[.int .i64 34, .string ⟨#[]⟩, .float .f64 0, .slice (some ⟨w67_.heap.size, 0, none⟩) 4 4, .complex .f64 0 0])) := zh (HK72.out.mk zi);clear HK72;obtain ⟨l_R, xR_0, xR_1, xR_2, xR_3, xR_4, yR_0, yR_1, yR_2, yR_3, yR_4⟩ := cf5 HB72.out.res
  go_wp2_with fail
  refine ret_at (v := .agg #[.int .i64 34, .string ⟨#[]⟩, .float .f64 0, .slice (some ⟨w67_.heap.size, 0, none⟩) 4 4, .complex .f64 0 0]) (fun U => Keeps [w.heap.size] w71_ U ∧ U.heap[w.heap.size]? = some (.cells #[.int .i64 34, .string ⟨#[]⟩, .float .f64 0, .slice (some ⟨w67_.heap.size, 0, none⟩) 4 4, .complex .f64 0 0] 50 (0, 0))) ⟨zg, (za HB72.out.res)⟩ (fun U hU => ?_) rfl (fun U hU => ?_)
  ·obtain ⟨-, x0, x1, x2, x3, x4, -⟩ := cf5 hU.2;exact qpb
  exact HB72.out.fin HH71.out hU.1 qg qg
 ·go_wp2_with fail
  refine (array_any HB6.out.here qg).mono ?_;rintro r w73_ ⟨s73, rfl, hm, hk⟩;have HB74 := zh (HB6.out.call hm hk);clear hk hm HB6
  go_wp2_with fail
  refine (scalar_any HB74.out.here qg).mono ?_;rintro r w75_ ⟨s75, rfl, hm, hk⟩;have HB76 := zh (HB74.out.call hm hk);clear hk hm HB74
  go_wp2_with fail
  refine jrb ?_;rintro r w77_ ⟨rfl, hk⟩;have HB78 := zh (HB76.out.kp hk);clear hk HB76;have HH77 : Hid (Nd (w.heap.size + 1) 1 w77_ (.agg #[.int .i64 4, .string s75, .float .f64 0, .slice none 0 0, .complex .f64 0 0])) := zh (Nd.leaf _ _ _ _ _ _ _)
  go_wp2_with fail
  refine (HLO.out _ _ HB78.out.here qg).mono ?_;rintro r w79_ ⟨v, rfl, hn, hm, hk⟩;obtain ⟨k79, nm79, nu79, a79, l79, c79, re79, im79, rfl⟩ := hn.shape;have HB80 := zh (HB78.out.call hm hk);have HN80_h77 := zh (HB78.out.nd hk HH77.out);have HN79 := zh (HB78.out.node hn);clear hn;clear hk hm HB78 HH77
  go_wp2_with fail
  refine calls_at (fun V => Keeps [] w79_ V ∧ V.heap[w79_.heap.size]? = some (.cells #[.int .i64 4, .string s75, .float .f64 0, .slice none 0 0, .complex .f64 0 0, .int .i64 k79, .string nm79, .float .f64 nu79, .slice a79 l79 c79, .complex .f64 re79 im79] 50 (0, 0))) ⟨zg, ja⟩ ?_;rintro w81_ ⟨hk, hr⟩;have HB82 := zh (HB80.out.kp hk);have HN82_h77 := zh (HN80_h77.out.step hk jg);have HN82_n79 := zh (HN79.out.step hk jg);have HK81 := zh (Kd.row2 hr HB80.out.b HN82_h77.out HN82_n79.out);clear hr;clear hk HB80 HN80_h77 HN79;clear HN82_h77;clear HN82_n79;refine jrb ?_;rintro r w83_ ⟨rfl, hk⟩;have HB84 := zh (HB82.out.kp hk);have HK84 := zh (HK81.out.step hk jg);clear hk HB82 HK81;have HH83 : Hid (Nd (w.heap.size + 1) _ w83_ (.agg #[.int .i64 35, .string s73, .float .f64 0, .slice (some ⟨w79_.heap.size, 0, none⟩) 2 2, .complex .f64 0 0])) := zh (HK84.out.mk zi);clear HK84;obtain ⟨l_R, xR_0, xR_1, xR_2, xR_3, xR_4, yR_0, yR_1, yR_2, yR_3, yR_4⟩ := cf5 HB84.out.res
  go_wp2_with fail
  refine ret_at (v := .agg #[.int .i64 35, .string s73, .float .f64 0, .slice (some ⟨w79_.heap.size, 0, none⟩) 2 2, .complex .f64 0 0]) (fun U => Keeps [w.heap.size] w83_ U ∧ U.heap[w.heap.size]? = some (.cells #[.int .i64 35, .string s73, .float .f64 0, .slice (some ⟨w79_.heap.size, 0, none⟩) 2 2, .complex .f64 0 0] 50 (0, 0))) ⟨zg, (za HB84.out.res)⟩ (fun U hU => ?_) rfl (fun U hU => ?_)
  ·obtain ⟨-, x0, x1, x2, x3, x4, -⟩ := cf5 hU.2;exact qpb
  exact HB84.out.fin HH83.out hU.1 qg qg
 ·go_wp2_with fail
  refine jrb ?_;rintro r w85_ ⟨rfl, hk⟩;have HB86 := zh (HB6.out.kp hk);clear hk HB6;have HH85 : Hid (Nd (w.heap.size + 1) 1 w85_ (.agg #[.int .i64 4, .string ⟨#[110]⟩, .float .f64 0, .slice none 0 0, .complex .f64 0 0])) := zh (Nd.leaf _ _ _ _ _ _ _)
  go_wp2_with fail
  refine calls_at (fun V => Keeps [] w85_ V ∧ V.heap[w85_.heap.size]? = some (.cells #[.int .i64 4, .string ⟨#[110]⟩, .float .f64 0, .slice none 0 0, .complex .f64 0 0] 50 (0, 0))) ⟨zg, ja⟩ ?_;rintro w87_ ⟨hk, hr⟩;have HB88 := zh (HB86.out.kp hk);have HN88_h85 := zh (HH85.out.step hk jg);have HK87 := zh (Kd.row1 hr HB86.out.b HN88_h85.out);clear hr;clear hk HB86 HH85;clear HN88_h85;refine jrb ?_;rintro r w89_ ⟨rfl, hk⟩;have HB90 := zh (HB88.out.kp hk);have HK90 := zh (HK87.out.step hk jg);clear hk HB88 HK87;have HH89 : Hid (Nd (w.heap.size + 1) _ w89_ (.agg #[.int .i64 18, .string ⟨#[43, 43]⟩, .float .f64 0, .slice (some ⟨w85_.heap.size, 0, none⟩) 1 1, .complex .f64 0 0])) := zh (HK90.out.mk zi);clear HK90
  go_wp2_with fail
  refine (one_any HB90.out.fix HB90.out.mak qg 9 qg qg).mono ?_;rintro r w91_ ⟨q2, hq_q2, rfl, hm, hk⟩;have HB92 := zh (HB90.out.call hm hk);have HN92_h89 := zh (HB90.out.nd hk HH89.out);clear hk hm HB90 HH89
  go_wp2_with fail
  refine (num_ex _ _).mono ?_;rintro r w93_ ⟨nu93, rfl, hk⟩;have HB94 := zh (HB92.out.kp hk);have HN94_h89 := zh (HN92_h89.out.step hk jg);clear hk HB92 HN92_h89;have HM93 : Hid (Nd (w.heap.size + 1) 1 w93_ (.agg #[.int .i64 1, .string ⟨#[]⟩, .float .f64 nu93, .slice none 0 0, .complex .f64 0 0])) := zh (Nd.leaf _ _ _ _ _ _ _)
  go_wp2_with fail
  refine calls_at (fun V => Keeps [] w93_ V ∧ V.heap[w93_.heap.size]? = some (.cells #[.int .i64 18, .string ⟨#[43, 43]⟩, .float .f64 0, .slice (some ⟨w85_.heap.size, 0, none⟩) 1 1, .complex .f64 0 0, .int .i64 1, .string ⟨#[]⟩, .float .f64 nu93, .slice none 0 0, .complex .f64 0 0] 50 (0, 0))) ⟨zg, ja⟩ ?_;rintro w95_ ⟨hk, hr⟩;have HB96 := zh (HB94.out.kp hk);have HN96_h89 := zh (HN94_h89.out.step hk jg);have HN96_m93 := zh (HM93.out.step hk jg);have HK95 := zh (Kd.row2 hr HB94.out.b HN96_h89.out HN96_m93.out);clear hr;clear hk HB94 HN94_h89 HM93;clear HN96_h89;clear HN96_m93;refine jrb ?_;rintro r w97_ ⟨rfl, hk⟩;have HB98 := zh (HB96.out.kp hk);have HK98 := zh (HK95.out.step hk jg);clear hk HB96 HK95;have HH97 : Hid (Nd (w.heap.size + 1) _ w97_ (.agg #[.int .i64 13, .string ⟨#[60]⟩, .float .f64 0, .slice (some ⟨w93_.heap.size, 0, none⟩) 2 2, .complex .f64 0 0])) := zh (HK98.out.mk zi);clear HK98
  go_wp2_with fail
  refine (HLO.out _ _ HB98.out.here qg).mono ?_;rintro r w99_ ⟨v, rfl, hn, hm, hk⟩;obtain ⟨k99, nm99, nu99, a99, l99, c99, re99, im99, rfl⟩ := hn.shape;have HB100 := zh (HB98.out.call hm hk);have HN100_h97 := zh (HB98.out.nd hk HH97.out);have HN99 := zh (HB98.out.node hn);clear hn;clear hk hm HB98 HH97
  go_wp2_with fail
  refine calls_at (fun V => Keeps [] w99_ V ∧ V.heap[w99_.heap.size]? = some (.cells #[.int .i64 13, .string ⟨#[60]⟩, .float .f64 0, .slice (some ⟨w93_.heap.size, 0, none⟩) 2 2, .complex .f64 0 0, .int .i64 k99, .string nm99, .float .f64 nu99, .slice a99 l99 c99, .complex .f64 re99 im99] 50 (0, 0))) ⟨zg, ja⟩ ?_;rintro w101_ ⟨hk, hr⟩;have HB102 := zh (HB100.out.kp hk);have HN102_h97 := zh (HN100_h97.out.step hk jg);have HN102_n99 := zh (HN99.out.step hk jg);have HK101 := zh (Kd.row2 hr HB100.out.b HN102_h97.out HN102_n99.out);clear hr;clear hk HB100 HN100_h97 HN99;clear HN102_h97;clear HN102_n99;refine jrb ?_;rintro r w103_ ⟨rfl, hk⟩;have HB104 := zh (HB102.out.kp hk);have HK104 := zh (HK101.out.step hk jg);clear hk HB102 HK101;have HH103 : Hid (Nd (w.heap.size + 1) _ w103_ (.agg #[.int .i64 32, .string ⟨#[]⟩, .float .f64 0, .slice (some ⟨w99_.heap.size, 0, none⟩) 2 2, .complex .f64 0 0])) := zh (HK104.out.mk zi);clear HK104;obtain ⟨l_R, xR_0, xR_1, xR_2, xR_3, xR_4, yR_0, yR_1, yR_2, yR_3, yR_4⟩ := cf5 HB104.out.res
  go_wp2_with fail
  refine ret_at (v := .agg #[.int .i64 32, .string ⟨#[]⟩, .float .f64 0, .slice (some ⟨w99_.heap.size, 0, none⟩) 2 2, .complex .f64 0 0]) (fun U => Keeps [w.heap.size] w103_ U ∧ U.heap[w.heap.size]? = some (.cells #[.int .i64 32, .string ⟨#[]⟩, .float .f64 0, .slice (some ⟨w99_.heap.size, 0, none⟩) 2 2, .complex .f64 0 0] 50 (0, 0))) ⟨zg, (za HB104.out.res)⟩ (fun U hU => ?_) rfl (fun U hU => ?_)
  ·obtain ⟨-, x0, x1, x2, x3, x4, -⟩ := cf5 hU.2;exact qpb
  exact HB104.out.fin HH103.out hU.1 qg qg
 ·go_wp2_with fail
  refine (HLO.out _ _ HB6.out.here qg).mono ?_;rintro r w105_ ⟨v, rfl, hn, hm, hk⟩;obtain ⟨k105, nm105, nu105, a105, l105, c105, re105, im105, rfl⟩ := hn.shape;have HB106 := zh (HB6.out.call hm hk);have HN105 := zh (HB6.out.node hn);clear hn;clear hk hm HB6
  go_wp2_with fail
  refine jrb ?_;rintro r w107_ ⟨rfl, hk⟩;have HB108 := zh (HB106.out.kp hk);have HN108_n105 := zh (HN105.out.step hk jg);clear hk HB106 HN105;have HH107 : Hid (Nd (w.heap.size + 1) 1 w107_ (.agg #[.int .i64 4, .string ⟨#[110]⟩, .float .f64 0, .slice none 0 0, .complex .f64 0 0])) := zh (Nd.leaf _ _ _ _ _ _ _)
  go_wp2_with fail
  refine calls_at (fun V => Keeps [] w107_ V ∧ V.heap[w107_.heap.size]? = some (.cells #[.int .i64 4, .string ⟨#[110]⟩, .float .f64 0, .slice none 0 0, .complex .f64 0 0] 50 (0, 0))) ⟨zg, ja⟩ ?_;rintro w109_ ⟨hk, hr⟩;have HB110 := zh (HB108.out.kp hk);have HN110_n105 := zh (HN108_n105.out.step hk jg);have HN110_h107 := zh (HH107.out.step hk jg);have HK109 := zh (Kd.row1 hr HB108.out.b HN110_h107.out);clear hr;clear hk HB108 HN108_n105 HH107;clear HN110_h107;refine jrb ?_;rintro r w111_ ⟨rfl, hk⟩;have HB112 := zh (HB110.out.kp hk);have HN112_n105 := zh (HN110_n105.out.step hk jg);have HK112 := zh (HK109.out.step hk jg);clear hk HB110 HN110_n105 HK109;have HH111 : Hid (Nd (w.heap.size + 1) _ w111_ (.agg #[.int .i64 17, .string ⟨#[43, 43]⟩, .float .f64 0, .slice (some ⟨w107_.heap.size, 0, none⟩) 1 1, .complex .f64 0 0])) := zh (HK112.out.mk zi);clear HK112
  go_wp2_with fail
  refine (num_ex _ _).mono ?_;rintro r w113_ ⟨nu113, rfl, hk⟩;have HB114 := zh (HB112.out.kp hk);have HN114_n105 := zh (HN112_n105.out.step hk jg);have HN114_h111 := zh (HH111.out.step hk jg);clear hk HB112 HN112_n105 HH111;have HM113 : Hid (Nd (w.heap.size + 1) 1 w113_ (.agg #[.int .i64 1, .string ⟨#[]⟩, .float .f64 nu113, .slice none 0 0, .complex .f64 0 0])) := zh (Nd.leaf _ _ _ _ _ _ _)
  go_wp2_with fail
  refine calls_at (fun V => Keeps [] w113_ V ∧ V.heap[w113_.heap.size]? = some (.cells #[.int .i64 17, .string ⟨#[43, 43]⟩, .float .f64 0, .slice (some ⟨w107_.heap.size, 0, none⟩) 1 1, .complex .f64 0 0, .int .i64 1, .string ⟨#[]⟩, .float .f64 nu113, .slice none 0 0, .complex .f64 0 0] 50 (0, 0))) ⟨zg, ja⟩ ?_;rintro w115_ ⟨hk, hr⟩;have HB116 := zh (HB114.out.kp hk);have HN116_n105 := zh (HN114_n105.out.step hk jg);have HN116_h111 := zh (HN114_h111.out.step hk jg);have HN116_m113 := zh (HM113.out.step hk jg);have HK115 := zh (Kd.row2 hr HB114.out.b HN116_h111.out HN116_m113.out);clear hr;clear hk HB114 HN114_n105 HN114_h111 HM113;clear HN116_h111;clear HN116_m113;refine jrb ?_;rintro r w117_ ⟨rfl, hk⟩;have HB118 := zh (HB116.out.kp hk);have HN118_n105 := zh (HN116_n105.out.step hk jg);have HK118 := zh (HK115.out.step hk jg);clear hk HB116 HN116_n105 HK115;have HH117 : Hid (Nd (w.heap.size + 1) _ w117_ (.agg #[.int .i64 13, .string ⟨#[60]⟩, .float .f64 0, .slice (some ⟨w113_.heap.size, 0, none⟩) 2 2, .complex .f64 0 0])) := zh (HK118.out.mk zi);clear HK118
  go_wp2_with fail
  refine calls_at (fun V => Keeps [] w117_ V ∧ V.heap[w117_.heap.size]? = some (.cells #[.int .i64 k105, .string nm105, .float .f64 nu105, .slice a105 l105 c105, .complex .f64 re105 im105, .int .i64 13, .string ⟨#[60]⟩, .float .f64 0, .slice (some ⟨w113_.heap.size, 0, none⟩) 2 2, .complex .f64 0 0] 50 (0, 0))) ⟨zg, ja⟩ ?_;rintro w119_ ⟨hk, hr⟩;have HB120 := zh (HB118.out.kp hk);have HN120_n105 := zh (HN118_n105.out.step hk jg);have HN120_h117 := zh (HH117.out.step hk jg);have HK119 := zh (Kd.row2 hr HB118.out.b HN120_n105.out HN120_h117.out);clear hr;clear hk HB118 HN118_n105 HH117;clear HN120_n105;clear HN120_h117;refine jrb ?_;rintro r w121_ ⟨rfl, hk⟩;have HB122 := zh (HB120.out.kp hk);have HK122 := zh (HK119.out.step hk jg);clear hk HB120 HK119;have HH121 : Hid (Nd (w.heap.size + 1) _ w121_ (.agg #[.int .i64 33, .string ⟨#[]⟩, .float .f64 0, .slice (some ⟨w117_.heap.size, 0, none⟩) 2 2, .complex .f64 0 0])) := zh (HK122.out.mk zi);clear HK122;obtain ⟨l_R, xR_0, xR_1, xR_2, xR_3, xR_4, yR_0, yR_1, yR_2, yR_3, yR_4⟩ := cf5 HB122.out.res
  go_wp2_with fail
  refine ret_at (v := .agg #[.int .i64 33, .string ⟨#[]⟩, .float .f64 0, .slice (some ⟨w117_.heap.size, 0, none⟩) 2 2, .complex .f64 0 0]) (fun U => Keeps [w.heap.size] w121_ U ∧ U.heap[w.heap.size]? = some (.cells #[.int .i64 33, .string ⟨#[]⟩, .float .f64 0, .slice (some ⟨w117_.heap.size, 0, none⟩) 2 2, .complex .f64 0 0] 50 (0, 0))) ⟨zg, (za HB122.out.res)⟩ (fun U hU => ?_) rfl (fun U hU => ?_)
  ·obtain ⟨-, x0, x1, x2, x3, x4, -⟩ := cf5 hU.2;exact qpb
  exact HB122.out.fin HH121.out hU.1 qg qg
 ·obtain ⟨i9, n9, l9, hi9, hn9, hl91, hl92, hm9⟩ := HB6.out.mak;obtain ⟨l_k, x0, x1, x2, x3, x4, y0, y1, y2, y3, y4⟩ := cf5 hm9.row
  by_cases hl9 : 0 < l9
  ·clear hm9 hi9 hn9 hl91 hl92
   go_wp2_with fail
   refine (one_int HB6.out.fix HB6.out.mak qg 2 qg qg).mono ?_;rintro r w123_ ⟨y, h0_y, h1_y, rfl, hm, hk⟩;have HB124 := zh (HB6.out.call hm hk);clear hk hm HB6;clear l_k x0 x1 x2 x3 x4 y0 y1 y2 y3 y4;have hy36 : IntKind.i64.wrap (36 + y) = 36 + y := wrap_id qg qg;have HH125 : Hid (Nd (w.heap.size + 1) 1 w123_ (.agg #[.int .i64 (36 + y), .string ⟨#[]⟩, .float .f64 0, .slice none 0 0, .complex .f64 0 0])) := zh (Nd.leaf _ _ _ _ _ _ _);obtain ⟨l_R, xR_0, xR_1, xR_2, xR_3, xR_4, yR_0, yR_1, yR_2, yR_3, yR_4⟩ := cf5 HB124.out.res
   go_wp2_with fail
   refine ret_at (v := .agg #[.int .i64 (36 + y), .string ⟨#[]⟩, .float .f64 0, .slice none 0 0, .complex .f64 0 0]) (fun U => Keeps [w.heap.size] w123_ U ∧ U.heap[w.heap.size]? = some (.cells #[.int .i64 (36 + y), .string ⟨#[]⟩, .float .f64 0, .slice none 0 0, .complex .f64 0 0] 50 (0, 0))) ⟨zg, (za HB124.out.res)⟩ (fun U hU => ?_) rfl (fun U hU => ?_)
   ·obtain ⟨-, x0, x1, x2, x3, x4, -⟩ := cf5 hU.2;exact qpb
   exact HB124.out.fin HH125.out hU.1 qg qg
  clear hm9 hi9 hn9 hl91 hl92
  go_wp2_with fail
  refine (HBK.out _ _ HB6.out.here qg).mono ?_;rintro r w126_ ⟨v, rfl, hn, hm, hk⟩;obtain ⟨k126, nm126, nu126, a126, l126, c126, re126, im126, rfl⟩ := hn.shape;have HB127 := zh (HB6.out.call hm hk);have HN126 := zh (HB6.out.node hn);clear hn;clear hk hm HB6;clear l_k x0 x1 x2 x3 x4 y0 y1 y2 y3 y4;obtain ⟨l_R, xR_0, xR_1, xR_2, xR_3, xR_4, yR_0, yR_1, yR_2, yR_3, yR_4⟩ := cf5 HB127.out.res
  go_wp2_with fail
  refine ret_at (v := .agg #[.int .i64 k126, .string nm126, .float .f64 nu126, .slice a126 l126 c126, .complex .f64 re126 im126]) (fun U => Keeps [w.heap.size] w126_ U ∧ U.heap[w.heap.size]? = some (.cells #[.int .i64 k126, .string nm126, .float .f64 nu126, .slice a126 l126 c126, .complex .f64 re126 im126] 50 (0, 0))) ⟨zg, (za HB127.out.res)⟩ (fun U hU => ?_) rfl (fun U hU => ?_)
  ·obtain ⟨-, x0, x1, x2, x3, x4, -⟩ := cf5 hU.2;exact qpb
  exact HB127.out.fin HN126.out hU.1 qg qg
 ·have hfn := MKB.fnc HB6.out.mak;have l_k : M.k < w5_.heap.size := Nat.lt_trans H_lt.out HB6.out.b
  cases fn with
  | true =>
   go_wp2_with fail
   refine qvb ?_;rintro r w128_ ⟨v, rfl, hn, hm, hk⟩;obtain ⟨k128, nm128, nu128, a128, l128, c128, re128, im128, rfl⟩ := hn.shape;have HB129 := zh (HB6.out.call hm hk);have HN128 := zh (HB6.out.node hn);clear hn;clear hk hm HB6;clear hfn l_k
   go_wp2_with fail
   refine calls_at (fun V => Keeps [] w128_ V ∧ V.heap[w128_.heap.size]? = some (.cells #[.int .i64 k128, .string nm128, .float .f64 nu128, .slice a128 l128 c128, .complex .f64 re128 im128] 50 (0, 0))) ⟨zg, ja⟩ ?_;rintro w130_ ⟨hk, hr⟩;have HB131 := zh (HB129.out.kp hk);have HN131_n128 := zh (HN128.out.step hk jg);have HK130 := zh (Kd.row1 hr HB129.out.b HN131_n128.out);clear hr;clear hk HB129 HN128;clear HN131_n128;refine jrb ?_;rintro r w132_ ⟨rfl, hk⟩;have HB133 := zh (HB131.out.kp hk);have HK133 := zh (HK130.out.step hk jg);clear hk HB131 HK130;have HH132 : Hid (Nd (w.heap.size + 1) _ w132_ (.agg #[.int .i64 40, .string ⟨#[]⟩, .float .f64 0, .slice (some ⟨w128_.heap.size, 0, none⟩) 1 1, .complex .f64 0 0])) := zh (HK133.out.mk zi);clear HK133;obtain ⟨l_R, xR_0, xR_1, xR_2, xR_3, xR_4, yR_0, yR_1, yR_2, yR_3, yR_4⟩ := cf5 HB133.out.res
   go_wp2_with fail
   refine ret_at (v := .agg #[.int .i64 40, .string ⟨#[]⟩, .float .f64 0, .slice (some ⟨w128_.heap.size, 0, none⟩) 1 1, .complex .f64 0 0]) (fun U => Keeps [w.heap.size] w132_ U ∧ U.heap[w.heap.size]? = some (.cells #[.int .i64 40, .string ⟨#[]⟩, .float .f64 0, .slice (some ⟨w128_.heap.size, 0, none⟩) 1 1, .complex .f64 0 0] 50 (0, 0))) ⟨zg, (za HB133.out.res)⟩ (fun U hU => ?_) rfl (fun U hU => ?_)
   ·obtain ⟨-, x0, x1, x2, x3, x4, -⟩ := cf5 hU.2;exact qpb
   exact HB133.out.fin HH132.out hU.1 qg qg
  | false =>
   go_wp2_with fail
   refine (one_int HB6.out.fix HB6.out.mak qg 6 qg qg).mono ?_;rintro r w134_ ⟨y, h0_y, h1_y, rfl, hm, hk⟩;have HB135 := zh (HB6.out.call hm hk);clear hk hm HB6;clear hfn l_k;clear h0_y h1_y
   by_cases hy0 : y = 0
   ·subst hy0;have HH136 : Hid (Nd (w.heap.size + 1) 1 w134_ (.agg #[.int .i64 39, .string ⟨#[]⟩, .float .f64 0, .slice none 0 0, .complex .f64 0 0])) := zh (Nd.leaf _ _ _ _ _ _ _);obtain ⟨l_R, xR_0, xR_1, xR_2, xR_3, xR_4, yR_0, yR_1, yR_2, yR_3, yR_4⟩ := cf5 HB135.out.res
    go_wp2_with fail
    refine ret_at (v := .agg #[.int .i64 39, .string ⟨#[]⟩, .float .f64 0, .slice none 0 0, .complex .f64 0 0]) (fun U => Keeps [w.heap.size] w134_ U ∧ U.heap[w.heap.size]? = some (.cells #[.int .i64 39, .string ⟨#[]⟩, .float .f64 0, .slice none 0 0, .complex .f64 0 0] 50 (0, 0))) ⟨zg, (za HB135.out.res)⟩ (fun U hU => ?_) rfl (fun U hU => ?_)
    ·obtain ⟨-, x0, x1, x2, x3, x4, -⟩ := cf5 hU.2;exact qpb
    exact HB135.out.fin HH136.out hU.1 qg qg
   have hy : (y == 0) = false := beq_false_of_ne hy0
   go_wp2_with fail
   refine (HS2.out _ _ HB135.out.here qg).mono ?_;rintro r w137_ ⟨v, rfl, hn, hm, hk⟩;obtain ⟨k137, nm137, nu137, a137, l137, c137, re137, im137, rfl⟩ := hn.shape;have HB138 := zh (HB135.out.call hm hk);have HN137 := zh (HB135.out.node hn);clear hn;clear hk hm HB135;obtain ⟨l_R, xR_0, xR_1, xR_2, xR_3, xR_4, yR_0, yR_1, yR_2, yR_3, yR_4⟩ := cf5 HB138.out.res
   go_wp2_with fail
   refine ret_at (v := .agg #[.int .i64 k137, .string nm137, .float .f64 nu137, .slice a137 l137 c137, .complex .f64 re137 im137]) (fun U => Keeps [w.heap.size] w137_ U ∧ U.heap[w.heap.size]? = some (.cells #[.int .i64 k137, .string nm137, .float .f64 nu137, .slice a137 l137 c137, .complex .f64 re137 im137] 50 (0, 0))) ⟨zg, (za HB138.out.res)⟩ (fun U hU => ?_) rfl (fun U hU => ?_)
   ·obtain ⟨-, x0, x1, x2, x3, x4, -⟩ := cf5 hU.2;exact qpb
   exact HB138.out.fin HN137.out hU.1 qg qg
 ·go_wp2_with fail
  refine qyb ?_;rintro r w139_ ⟨v, rfl, hn, hm, hk⟩;obtain ⟨k139, nm139, nu139, a139, l139, c139, re139, im139, rfl⟩ := hn.shape;have HB140 := zh (HB6.out.call hm hk);have HN139 := zh (HB6.out.node hn);clear hn;clear hk hm HB6;obtain ⟨l_R, xR_0, xR_1, xR_2, xR_3, xR_4, yR_0, yR_1, yR_2, yR_3, yR_4⟩ := cf5 HB140.out.res
  go_wp2_with fail
  refine ret_at (v := .agg #[.int .i64 k139, .string nm139, .float .f64 nu139, .slice a139 l139 c139, .complex .f64 re139 im139]) (fun U => Keeps [w.heap.size] w139_ U ∧ U.heap[w.heap.size]? = some (.cells #[.int .i64 k139, .string nm139, .float .f64 nu139, .slice a139 l139 c139, .complex .f64 re139 im139] 50 (0, 0))) ⟨zg, (za HB140.out.res)⟩ (fun U hU => ?_) rfl (fun U hU => ?_)
  ·obtain ⟨-, x0, x1, x2, x3, x4, -⟩ := cf5 hU.2;exact qpb
  exact HB140.out.fin HN139.out hU.1 qg qg
 ·go_wp2_with fail
  refine qyb ?_;rintro r w141_ ⟨v, rfl, hn, hm, hk⟩;obtain ⟨k141, nm141, nu141, a141, l141, c141, re141, im141, rfl⟩ := hn.shape;have HB142 := zh (HB6.out.call hm hk);have HN141 := zh (HB6.out.node hn);clear hn;clear hk hm HB6;obtain ⟨l_R, xR_0, xR_1, xR_2, xR_3, xR_4, yR_0, yR_1, yR_2, yR_3, yR_4⟩ := cf5 HB142.out.res
  go_wp2_with fail
  refine ret_at (v := .agg #[.int .i64 k141, .string nm141, .float .f64 nu141, .slice a141 l141 c141, .complex .f64 re141 im141]) (fun U => Keeps [w.heap.size] w141_ U ∧ U.heap[w.heap.size]? = some (.cells #[.int .i64 k141, .string nm141, .float .f64 nu141, .slice a141 l141 c141, .complex .f64 re141 im141] 50 (0, 0))) ⟨zg, (za HB142.out.res)⟩ (fun U hU => ?_) rfl (fun U hU => ?_)
  ·obtain ⟨-, x0, x1, x2, x3, x4, -⟩ := cf5 hU.2;exact qpb
  exact HB142.out.fin HN141.out hU.1 qg qg
 ·go_wp2_with fail
  refine qyb ?_;rintro r w143_ ⟨v, rfl, hn, hm, hk⟩;obtain ⟨k143, nm143, nu143, a143, l143, c143, re143, im143, rfl⟩ := hn.shape;have HB144 := zh (HB6.out.call hm hk);have HN143 := zh (HB6.out.node hn);clear hn;clear hk hm HB6;obtain ⟨l_R, xR_0, xR_1, xR_2, xR_3, xR_4, yR_0, yR_1, yR_2, yR_3, yR_4⟩ := cf5 HB144.out.res
  go_wp2_with fail
  refine ret_at (v := .agg #[.int .i64 k143, .string nm143, .float .f64 nu143, .slice a143 l143 c143, .complex .f64 re143 im143]) (fun U => Keeps [w.heap.size] w143_ U ∧ U.heap[w.heap.size]? = some (.cells #[.int .i64 k143, .string nm143, .float .f64 nu143, .slice a143 l143 c143, .complex .f64 re143 im143] 50 (0, 0))) ⟨zg, (za HB144.out.res)⟩ (fun U hU => ?_) rfl (fun U hU => ?_)
  ·obtain ⟨-, x0, x1, x2, x3, x4, -⟩ := cf5 hU.2;exact qpb
  exact HB144.out.fin HN143.out hU.1 qg qg
 ·go_wp2_with fail
  refine qyb ?_;rintro r w145_ ⟨v, rfl, hn, hm, hk⟩;obtain ⟨k145, nm145, nu145, a145, l145, c145, re145, im145, rfl⟩ := hn.shape;have HB146 := zh (HB6.out.call hm hk);have HN145 := zh (HB6.out.node hn);clear hn;clear hk hm HB6;obtain ⟨l_R, xR_0, xR_1, xR_2, xR_3, xR_4, yR_0, yR_1, yR_2, yR_3, yR_4⟩ := cf5 HB146.out.res
  go_wp2_with fail
  refine ret_at (v := .agg #[.int .i64 k145, .string nm145, .float .f64 nu145, .slice a145 l145 c145, .complex .f64 re145 im145]) (fun U => Keeps [w.heap.size] w145_ U ∧ U.heap[w.heap.size]? = some (.cells #[.int .i64 k145, .string nm145, .float .f64 nu145, .slice a145 l145 c145, .complex .f64 re145 im145] 50 (0, 0))) ⟨zg, (za HB146.out.res)⟩ (fun U hU => ?_) rfl (fun U hU => ?_)
  ·obtain ⟨-, x0, x1, x2, x3, x4, -⟩ := cf5 hU.2;exact qpb
  exact HB146.out.fin HN145.out hU.1 qg qg
 ·go_wp2_with fail
  refine qyb ?_;rintro r w147_ ⟨v, rfl, hn, hm, hk⟩;obtain ⟨k147, nm147, nu147, a147, l147, c147, re147, im147, rfl⟩ := hn.shape;have HB148 := zh (HB6.out.call hm hk);have HN147 := zh (HB6.out.node hn);clear hn;clear hk hm HB6;obtain ⟨l_R, xR_0, xR_1, xR_2, xR_3, xR_4, yR_0, yR_1, yR_2, yR_3, yR_4⟩ := cf5 HB148.out.res
  go_wp2_with fail
  refine ret_at (v := .agg #[.int .i64 k147, .string nm147, .float .f64 nu147, .slice a147 l147 c147, .complex .f64 re147 im147]) (fun U => Keeps [w.heap.size] w147_ U ∧ U.heap[w.heap.size]? = some (.cells #[.int .i64 k147, .string nm147, .float .f64 nu147, .slice a147 l147 c147, .complex .f64 re147 im147] 50 (0, 0))) ⟨zg, (za HB148.out.res)⟩ (fun U hU => ?_) rfl (fun U hU => ?_)
  ·obtain ⟨-, x0, x1, x2, x3, x4, -⟩ := cf5 hU.2;exact qpb
  exact HB148.out.fin HN147.out hU.1 qg qg
 ·go_wp2_with fail
  refine qyb ?_;rintro r w149_ ⟨v, rfl, hn, hm, hk⟩;obtain ⟨k149, nm149, nu149, a149, l149, c149, re149, im149, rfl⟩ := hn.shape;have HB150 := zh (HB6.out.call hm hk);have HN149 := zh (HB6.out.node hn);clear hn;clear hk hm HB6;obtain ⟨l_R, xR_0, xR_1, xR_2, xR_3, xR_4, yR_0, yR_1, yR_2, yR_3, yR_4⟩ := cf5 HB150.out.res
  go_wp2_with fail
  refine ret_at (v := .agg #[.int .i64 k149, .string nm149, .float .f64 nu149, .slice a149 l149 c149, .complex .f64 re149 im149]) (fun U => Keeps [w.heap.size] w149_ U ∧ U.heap[w.heap.size]? = some (.cells #[.int .i64 k149, .string nm149, .float .f64 nu149, .slice a149 l149 c149, .complex .f64 re149 im149] 50 (0, 0))) ⟨zg, (za HB150.out.res)⟩ (fun U hU => ?_) rfl (fun U hU => ?_)
  ·obtain ⟨-, x0, x1, x2, x3, x4, -⟩ := cf5 hU.2;exact qpb
  exact HB150.out.fin HN149.out hU.1 qg qg
 ·go_wp2_with fail
  refine qyb ?_;exact jkd
 ·go_wp2_with fail
  refine qyb ?_;rintro r w153_ ⟨v, rfl, hn, hm, hk⟩;obtain ⟨k153, nm153, nu153, a153, l153, c153, re153, im153, rfl⟩ := hn.shape;have HB154 := zh (HB6.out.call hm hk);have HN153 := zh (HB6.out.node hn);clear hn;clear hk hm HB6;obtain ⟨l_R, xR_0, xR_1, xR_2, xR_3, xR_4, yR_0, yR_1, yR_2, yR_3, yR_4⟩ := cf5 HB154.out.res
  go_wp2_with fail
  refine ret_at (v := .agg #[.int .i64 k153, .string nm153, .float .f64 nu153, .slice a153 l153 c153, .complex .f64 re153 im153]) (fun U => Keeps [w.heap.size] w153_ U ∧ U.heap[w.heap.size]? = some (.cells #[.int .i64 k153, .string nm153, .float .f64 nu153, .slice a153 l153 c153, .complex .f64 re153 im153] 50 (0, 0))) ⟨zg, (za HB154.out.res)⟩ (fun U hU => ?_) rfl (fun U hU => ?_)
  ·obtain ⟨-, x0, x1, x2, x3, x4, -⟩ := cf5 hU.2;exact qpb
  exact HB154.out.fin HN153.out hU.1 qg qg
 go_wp2_with fail
 refine qyb ?_;rintro r w155_ ⟨v, rfl, hn, hm, hk⟩;obtain ⟨k155, nm155, nu155, a155, l155, c155, re155, im155, rfl⟩ := hn.shape;have HB156 := zh (HB6.out.call hm hk);have HN155 := zh (HB6.out.node hn);clear hn;clear hk hm HB6;obtain ⟨l_R, xR_0, xR_1, xR_2, xR_3, xR_4, yR_0, yR_1, yR_2, yR_3, yR_4⟩ := cf5 HB156.out.res
 go_wp2_with fail
 refine ret_at (v := .agg #[.int .i64 k155, .string nm155, .float .f64 nu155, .slice a155 l155 c155, .complex .f64 re155 im155]) (fun U => Keeps [w.heap.size] w155_ U ∧ U.heap[w.heap.size]? = some (.cells #[.int .i64 k155, .string nm155, .float .f64 nu155, .slice a155 l155 c155, .complex .f64 re155 im155] 50 (0, 0))) ⟨zg, (za HB156.out.res)⟩ (fun U hU => ?_) rfl (fun U hU => ?_)
 ·obtain ⟨-, x0, x1, x2, x3, x4, -⟩ := cf5 hU.2;exact qpb
 exact HB156.out.fin HN155.out hU.1 qg qg
end Go.Proofs.YtkfillfkbhbbjaaGreatDoor
