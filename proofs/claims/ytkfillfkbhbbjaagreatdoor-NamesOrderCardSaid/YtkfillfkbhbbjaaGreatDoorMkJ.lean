/- MkJ. -/
import Derived.Test.YtkfillfkbhbbjaaGreatDoorMkI
set_option maxRecDepth 100000
set_option maxHeartbeats 4000000
set_option linter.unusedSimpArgs false
set_option linter.unusedVariables false
namespace Go.Proofs.YtkfillfkbhbbjaaGreatDoor
open Go.RowKit
attribute [local go_sem] run_pick2 run_pick3 run_pick6
set_option maxHeartbeats 8000000 in
theorem built_any {M : MKey} {I : Nat} {fn : Bool} {w : World} (h : Bn M I fn w w) {d : Int} {Z K ZL KL Z' K' : Nat} (hE : ExprC M fn d Z K) (hL : LvalC M fn d ZL KL) (hZ : 2 * Z + 4 ≤ Z' ∧ ZL + 5 ≤ Z' ∧ Z + 5 ≤ Z') (hK : 2 * K + KL + 40 ≤ K') (hI : I + K' ≤ 1000000000000) : Calls Tryz.prog 57 #[.pointer (some ⟨M.k, 0, none⟩), .int .i64 d] w fun r w' => NodeP M Z' K' I fn w r w' := by
 have H0 := zh h;clear h
 go_enter Tryz.func57, Tryz.ntmps57
 have HE := zh hE; have HLV := zh hL; have H_lt := zh H0.out.lt;clear hE hL
 go_wp2_with fail
 refine zrb ?_;rintro w1 ⟨hk, hr⟩;have HB1 := zh (BnR.start H0.out hk hr);clear hk hr H0
 go_wp2_with fail
 refine (one_int HB1.out.fix HB1.out.mak qg 14 qg qg).mono ?_;rintro r w1_ ⟨z, h0_z, h1_z, rfl, hm, hk⟩;have HB2 := zh (HB1.out.call hm hk);clear hk hm HB1;have hz : z = 0 ∨ z = 1 ∨ z = 2 ∨ z = 3 ∨ z = 4 ∨ z = 5 ∨ z = 6 ∨ z = 7 ∨ z = 8 ∨ z = 9 ∨ z = 10 ∨ z = 11 ∨ z = 12 ∨ z = 13 := by omega
 clear h0_z h1_z
 rcases hz with rfl | rfl | rfl | rfl | rfl | rfl | rfl | rfl | rfl | rfl | rfl | rfl | rfl | rfl
 ·go_wp2_with fail
  refine zwb ?_;rintro r w3_ ⟨v, rfl, hn, hm, hk⟩;obtain ⟨k3, nm3, nu3, a3, l3, c3, re3, im3, rfl⟩ := hn.shape;have HB4 := zh (HB2.out.call hm hk);have HN3 := zh (HB2.out.node hn);clear hn;clear hk hm HB2
  go_wp2_with fail
  refine qub ?_;rintro w5_ ⟨hk, hr⟩;have HB6 := zh (HB4.out.kp hk);have HN6_n3 := zh (HN3.out.step hk jg);have HK5 := zh (Kd.row1 hr HB4.out.b HN6_n3.out);clear hr;clear hk HB4 HN3;clear HN6_n3;refine jrb ?_;rintro r w7_ ⟨rfl, hk⟩;have HB8 := zh (HB6.out.kp hk);have HK8 := zh (HK5.out.step hk jg);clear hk HB6 HK5;have HH7 : Hid (Nd (w.heap.size + 1) _ w7_ (.agg #[.int .i64 20, .string ⟨#[108, 101, 110, 103, 116, 104]⟩, .float .f64 0, .slice (some ⟨w3_.heap.size, 0, none⟩) 1 1, .complex .f64 0 0])) := zh (HK8.out.mk zi);clear HK8;obtain ⟨l_R, xR_0, xR_1, xR_2, xR_3, xR_4, yR_0, yR_1, yR_2, yR_3, yR_4⟩ := cf5 HB8.out.res
  go_wp2_with fail
  refine ret_at (v := .agg #[.int .i64 20, .string ⟨#[108, 101, 110, 103, 116, 104]⟩, .float .f64 0, .slice (some ⟨w3_.heap.size, 0, none⟩) 1 1, .complex .f64 0 0]) (fun U => Keeps [w.heap.size] w7_ U ∧ U.heap[w.heap.size]? = some (.cells #[.int .i64 20, .string ⟨#[108, 101, 110, 103, 116, 104]⟩, .float .f64 0, .slice (some ⟨w3_.heap.size, 0, none⟩) 1 1, .complex .f64 0 0] 50 (0, 0))) ⟨zg, (za HB8.out.res)⟩ (fun U hU => ?_) rfl (fun U hU => ?_)
  ·obtain ⟨-, x0, x1, x2, x3, x4, -⟩ := cf5 hU.2;exact qpb
  exact HB8.out.fin HH7.out hU.1 qg qg
 ·go_wp2_with fail
  refine (array_any HB2.out.here qg).mono ?_;rintro r w9_ ⟨s9, rfl, hm, hk⟩;have HB10 := zh (HB2.out.call hm hk);clear hk hm HB2
  go_wp2_with fail
  refine jrb ?_;rintro r w11_ ⟨rfl, hk⟩;have HB12 := zh (HB10.out.kp hk);clear hk HB10;have HH11 : Hid (Nd (w.heap.size + 1) 1 w11_ (.agg #[.int .i64 4, .string s9, .float .f64 0, .slice none 0 0, .complex .f64 0 0])) := zh (Nd.leaf _ _ _ _ _ _ _)
  go_wp2_with fail
  refine calls_at (fun V => Keeps [] w11_ V ∧ V.heap[w11_.heap.size]? = some (.cells #[.int .i64 4, .string s9, .float .f64 0, .slice none 0 0, .complex .f64 0 0] 50 (0, 0))) ⟨zg, ja⟩ ?_;rintro w13_ ⟨hk, hr⟩;have HB14 := zh (HB12.out.kp hk);have HN14_h11 := zh (HH11.out.step hk jg);have HK13 := zh (Kd.row1 hr HB12.out.b HN14_h11.out);clear hr;clear hk HB12 HH11;clear HN14_h11;refine jrb ?_;rintro r w15_ ⟨rfl, hk⟩;have HB16 := zh (HB14.out.kp hk);have HK16 := zh (HK13.out.step hk jg);clear hk HB14 HK13;have HH15 : Hid (Nd (w.heap.size + 1) _ w15_ (.agg #[.int .i64 20, .string ⟨#[108, 101, 110, 103, 116, 104]⟩, .float .f64 0, .slice (some ⟨w11_.heap.size, 0, none⟩) 1 1, .complex .f64 0 0])) := zh (HK16.out.mk zi);clear HK16;obtain ⟨l_R, xR_0, xR_1, xR_2, xR_3, xR_4, yR_0, yR_1, yR_2, yR_3, yR_4⟩ := cf5 HB16.out.res
  go_wp2_with fail
  refine ret_at (v := .agg #[.int .i64 20, .string ⟨#[108, 101, 110, 103, 116, 104]⟩, .float .f64 0, .slice (some ⟨w11_.heap.size, 0, none⟩) 1 1, .complex .f64 0 0]) (fun U => Keeps [w.heap.size] w15_ U ∧ U.heap[w.heap.size]? = some (.cells #[.int .i64 20, .string ⟨#[108, 101, 110, 103, 116, 104]⟩, .float .f64 0, .slice (some ⟨w11_.heap.size, 0, none⟩) 1 1, .complex .f64 0 0] 50 (0, 0))) ⟨zg, (za HB16.out.res)⟩ (fun U hU => ?_) rfl (fun U hU => ?_)
  ·obtain ⟨-, x0, x1, x2, x3, x4, -⟩ := cf5 hU.2;exact qpb
  exact HB16.out.fin HH15.out hU.1 qg qg
 ·go_wp2_with fail
  refine zwb ?_;rintro r w17_ ⟨v, rfl, hn, hm, hk⟩;obtain ⟨k17, nm17, nu17, a17, l17, c17, re17, im17, rfl⟩ := hn.shape;have HB18 := zh (HB2.out.call hm hk);have HN17 := zh (HB2.out.node hn);clear hn;clear hk hm HB2
  go_wp2_with fail
  refine (leaf_any HB18.out.here qg).mono ?_;rintro r w19_ ⟨v, rfl, hn, hm, hk⟩;obtain ⟨k19, nm19, nu19, a19, l19, c19, re19, im19, rfl⟩ := hn.shape;have HB20 := zh (HB18.out.call hm hk);have HN20_n17 := zh (HB18.out.nd hk HN17.out);have HN19 := zh (HB18.out.node hn);clear hn;clear hk hm HB18 HN17
  go_wp2_with fail
  refine (leaf_any HB20.out.here qg).mono ?_;rintro r w21_ ⟨v, rfl, hn, hm, hk⟩;obtain ⟨k21, nm21, nu21, a21, l21, c21, re21, im21, rfl⟩ := hn.shape;have HB22 := zh (HB20.out.call hm hk);have HN22_n17 := zh (HB20.out.nd hk HN20_n17.out);have HN22_n19 := zh (HB20.out.nd hk HN19.out);have HN21 := zh (HB20.out.node hn);clear hn;clear hk hm HB20 HN20_n17 HN19
  go_wp2_with fail
  refine calls_at (fun V => Keeps [] w21_ V ∧ V.heap[w21_.heap.size]? = some (.cells #[.int .i64 k17, .string nm17, .float .f64 nu17, .slice a17 l17 c17, .complex .f64 re17 im17, .int .i64 k19, .string nm19, .float .f64 nu19, .slice a19 l19 c19, .complex .f64 re19 im19, .int .i64 k21, .string nm21, .float .f64 nu21, .slice a21 l21 c21, .complex .f64 re21 im21] 50 (0, 0))) ⟨zg, ja⟩ ?_;rintro w23_ ⟨hk, hr⟩;have HB24 := zh (HB22.out.kp hk);have HN24_n17 := zh (HN22_n17.out.step hk jg);have HN24_n19 := zh (HN22_n19.out.step hk jg);have HN24_n21 := zh (HN21.out.step hk jg);have HK23 := zh (Kd.row3 hr HB22.out.b HN24_n17.out HN24_n19.out HN24_n21.out);clear hr;clear hk HB22 HN22_n17 HN22_n19 HN21;clear HN24_n17;clear HN24_n19;clear HN24_n21;refine jrb ?_;rintro r w25_ ⟨rfl, hk⟩;have HB26 := zh (HB24.out.kp hk);have HK26 := zh (HK23.out.step hk jg);clear hk HB24 HK23;have HH25 : Hid (Nd (w.heap.size + 1) _ w25_ (.agg #[.int .i64 20, .string ⟨#[115, 117, 98, 115, 116, 114]⟩, .float .f64 0, .slice (some ⟨w21_.heap.size, 0, none⟩) 3 3, .complex .f64 0 0])) := zh (HK26.out.mk zi);clear HK26;obtain ⟨l_R, xR_0, xR_1, xR_2, xR_3, xR_4, yR_0, yR_1, yR_2, yR_3, yR_4⟩ := cf5 HB26.out.res
  go_wp2_with fail
  refine ret_at (v := .agg #[.int .i64 20, .string ⟨#[115, 117, 98, 115, 116, 114]⟩, .float .f64 0, .slice (some ⟨w21_.heap.size, 0, none⟩) 3 3, .complex .f64 0 0]) (fun U => Keeps [w.heap.size] w25_ U ∧ U.heap[w.heap.size]? = some (.cells #[.int .i64 20, .string ⟨#[115, 117, 98, 115, 116, 114]⟩, .float .f64 0, .slice (some ⟨w21_.heap.size, 0, none⟩) 3 3, .complex .f64 0 0] 50 (0, 0))) ⟨zg, (za HB26.out.res)⟩ (fun U hU => ?_) rfl (fun U hU => ?_)
  ·obtain ⟨-, x0, x1, x2, x3, x4, -⟩ := cf5 hU.2;exact qpb
  exact HB26.out.fin HH25.out hU.1 qg qg
 ·go_wp2_with fail
  refine zwb ?_;rintro r w27_ ⟨v, rfl, hn, hm, hk⟩;obtain ⟨k27, nm27, nu27, a27, l27, c27, re27, im27, rfl⟩ := hn.shape;have HB28 := zh (HB2.out.call hm hk);have HN27 := zh (HB2.out.node hn);clear hn;clear hk hm HB2
  go_wp2_with fail
  refine (HE.out _ _ HB28.out.here qg).mono ?_;rintro r w29_ ⟨v, rfl, hn, hm, hk⟩;obtain ⟨k29, nm29, nu29, a29, l29, c29, re29, im29, rfl⟩ := hn.shape;have HB30 := zh (HB28.out.call hm hk);have HN30_n27 := zh (HB28.out.nd hk HN27.out);have HN29 := zh (HB28.out.node hn);clear hn;clear hk hm HB28 HN27
  go_wp2_with fail
  refine calls_at (fun V => Keeps [] w29_ V ∧ V.heap[w29_.heap.size]? = some (.cells #[.int .i64 k27, .string nm27, .float .f64 nu27, .slice a27 l27 c27, .complex .f64 re27 im27, .int .i64 k29, .string nm29, .float .f64 nu29, .slice a29 l29 c29, .complex .f64 re29 im29] 50 (0, 0))) ⟨zg, ja⟩ ?_;rintro w31_ ⟨hk, hr⟩;have HB32 := zh (HB30.out.kp hk);have HN32_n27 := zh (HN30_n27.out.step hk jg);have HN32_n29 := zh (HN29.out.step hk jg);have HK31 := zh (Kd.row2 hr HB30.out.b HN32_n27.out HN32_n29.out);clear hr;clear hk HB30 HN30_n27 HN29;clear HN32_n27;clear HN32_n29;refine jrb ?_;rintro r w33_ ⟨rfl, hk⟩;have HB34 := zh (HB32.out.kp hk);have HK34 := zh (HK31.out.step hk jg);clear hk HB32 HK31;have HH33 : Hid (Nd (w.heap.size + 1) _ w33_ (.agg #[.int .i64 20, .string ⟨#[105, 110, 100, 101, 120]⟩, .float .f64 0, .slice (some ⟨w29_.heap.size, 0, none⟩) 2 2, .complex .f64 0 0])) := zh (HK34.out.mk zi);clear HK34;obtain ⟨l_R, xR_0, xR_1, xR_2, xR_3, xR_4, yR_0, yR_1, yR_2, yR_3, yR_4⟩ := cf5 HB34.out.res
  go_wp2_with fail
  refine ret_at (v := .agg #[.int .i64 20, .string ⟨#[105, 110, 100, 101, 120]⟩, .float .f64 0, .slice (some ⟨w29_.heap.size, 0, none⟩) 2 2, .complex .f64 0 0]) (fun U => Keeps [w.heap.size] w33_ U ∧ U.heap[w.heap.size]? = some (.cells #[.int .i64 20, .string ⟨#[105, 110, 100, 101, 120]⟩, .float .f64 0, .slice (some ⟨w29_.heap.size, 0, none⟩) 2 2, .complex .f64 0 0] 50 (0, 0))) ⟨zg, (za HB34.out.res)⟩ (fun U hU => ?_) rfl (fun U hU => ?_)
  ·obtain ⟨-, x0, x1, x2, x3, x4, -⟩ := cf5 hU.2;exact qpb
  exact HB34.out.fin HH33.out hU.1 qg qg
 ·go_wp2_with fail
  refine zwb ?_;rintro r w35_ ⟨v, rfl, hn, hm, hk⟩;obtain ⟨k35, nm35, nu35, a35, l35, c35, re35, im35, rfl⟩ := hn.shape;have HB36 := zh (HB2.out.call hm hk);have HN35 := zh (HB2.out.node hn);clear hn;clear hk hm HB2
  go_wp2_with fail
  refine (array_any HB36.out.here qg).mono ?_;rintro r w37_ ⟨s37, rfl, hm, hk⟩;have HB38 := zh (HB36.out.call hm hk);have HN38_n35 := zh (HB36.out.nd hk HN35.out);clear hk hm HB36 HN35
  go_wp2_with fail
  refine jrb ?_;rintro r w39_ ⟨rfl, hk⟩;have HB40 := zh (HB38.out.kp hk);have HN40_n35 := zh (HN38_n35.out.step hk jg);clear hk HB38 HN38_n35;have HH39 : Hid (Nd (w.heap.size + 1) 1 w39_ (.agg #[.int .i64 4, .string s37, .float .f64 0, .slice none 0 0, .complex .f64 0 0])) := zh (Nd.leaf _ _ _ _ _ _ _)
  go_wp2_with fail
  refine calls_at (fun V => Keeps [] w39_ V ∧ V.heap[w39_.heap.size]? = some (.cells #[.int .i64 k35, .string nm35, .float .f64 nu35, .slice a35 l35 c35, .complex .f64 re35 im35, .int .i64 4, .string s37, .float .f64 0, .slice none 0 0, .complex .f64 0 0] 50 (0, 0))) ⟨zg, ja⟩ ?_;rintro w41_ ⟨hk, hr⟩;have HB42 := zh (HB40.out.kp hk);have HN42_n35 := zh (HN40_n35.out.step hk jg);have HN42_h39 := zh (HH39.out.step hk jg);have HK41 := zh (Kd.row2 hr HB40.out.b HN42_n35.out HN42_h39.out);clear hr;clear hk HB40 HN40_n35 HH39;clear HN42_n35;clear HN42_h39;refine jrb ?_;rintro r w43_ ⟨rfl, hk⟩;have HB44 := zh (HB42.out.kp hk);have HK44 := zh (HK41.out.step hk jg);clear hk HB42 HK41;have HH43 : Hid (Nd (w.heap.size + 1) _ w43_ (.agg #[.int .i64 20, .string ⟨#[115, 112, 108, 105, 116]⟩, .float .f64 0, .slice (some ⟨w39_.heap.size, 0, none⟩) 2 2, .complex .f64 0 0])) := zh (HK44.out.mk zi);clear HK44;obtain ⟨l_R, xR_0, xR_1, xR_2, xR_3, xR_4, yR_0, yR_1, yR_2, yR_3, yR_4⟩ := cf5 HB44.out.res
  go_wp2_with fail
  refine ret_at (v := .agg #[.int .i64 20, .string ⟨#[115, 112, 108, 105, 116]⟩, .float .f64 0, .slice (some ⟨w39_.heap.size, 0, none⟩) 2 2, .complex .f64 0 0]) (fun U => Keeps [w.heap.size] w43_ U ∧ U.heap[w.heap.size]? = some (.cells #[.int .i64 20, .string ⟨#[115, 112, 108, 105, 116]⟩, .float .f64 0, .slice (some ⟨w39_.heap.size, 0, none⟩) 2 2, .complex .f64 0 0] 50 (0, 0))) ⟨zg, (za HB44.out.res)⟩ (fun U hU => ?_) rfl (fun U hU => ?_)
  ·obtain ⟨-, x0, x1, x2, x3, x4, -⟩ := cf5 hU.2;exact qpb
  exact HB44.out.fin HH43.out hU.1 qg qg
 ·go_wp2_with fail
  refine zwb ?_;rintro r w45_ ⟨v, rfl, hn, hm, hk⟩;obtain ⟨k45, nm45, nu45, a45, l45, c45, re45, im45, rfl⟩ := hn.shape;have HB46 := zh (HB2.out.call hm hk);have HN45 := zh (HB2.out.node hn);clear hn;clear hk hm HB2
  go_wp2_with fail
  refine (array_any HB46.out.here qg).mono ?_;rintro r w47_ ⟨s47, rfl, hm, hk⟩;have HB48 := zh (HB46.out.call hm hk);have HN48_n45 := zh (HB46.out.nd hk HN45.out);clear hk hm HB46 HN45
  go_wp2_with fail
  refine jrb ?_;rintro r w49_ ⟨rfl, hk⟩;have HB50 := zh (HB48.out.kp hk);have HN50_n45 := zh (HN48_n45.out.step hk jg);clear hk HB48 HN48_n45;have HH49 : Hid (Nd (w.heap.size + 1) 1 w49_ (.agg #[.int .i64 4, .string s47, .float .f64 0, .slice none 0 0, .complex .f64 0 0])) := zh (Nd.leaf _ _ _ _ _ _ _)
  go_wp2_with fail
  refine (regex_any HB50.out.here qg).mono ?_;rintro r w51_ ⟨v, rfl, hn, hm, hk⟩;obtain ⟨k51, nm51, nu51, a51, l51, c51, re51, im51, rfl⟩ := hn.shape;have HB52 := zh (HB50.out.call hm hk);have HN52_n45 := zh (HB50.out.nd hk HN50_n45.out);have HN52_h49 := zh (HB50.out.nd hk HH49.out);have HN51 := zh (HB50.out.node hn);clear hn;clear hk hm HB50 HN50_n45 HH49
  go_wp2_with fail
  refine calls_at (fun V => Keeps [] w51_ V ∧ V.heap[w51_.heap.size]? = some (.cells #[.int .i64 k45, .string nm45, .float .f64 nu45, .slice a45 l45 c45, .complex .f64 re45 im45, .int .i64 4, .string s47, .float .f64 0, .slice none 0 0, .complex .f64 0 0, .int .i64 k51, .string nm51, .float .f64 nu51, .slice a51 l51 c51, .complex .f64 re51 im51] 50 (0, 0))) ⟨zg, ja⟩ ?_;rintro w53_ ⟨hk, hr⟩;have HB54 := zh (HB52.out.kp hk);have HN54_n45 := zh (HN52_n45.out.step hk jg);have HN54_h49 := zh (HN52_h49.out.step hk jg);have HN54_n51 := zh (HN51.out.step hk jg);have HK53 := zh (Kd.row3 hr HB52.out.b HN54_n45.out HN54_h49.out HN54_n51.out);clear hr;clear hk HB52 HN52_n45 HN52_h49 HN51;clear HN54_n45;clear HN54_h49;clear HN54_n51;refine jrb ?_;rintro r w55_ ⟨rfl, hk⟩;have HB56 := zh (HB54.out.kp hk);have HK56 := zh (HK53.out.step hk jg);clear hk HB54 HK53;have HH55 : Hid (Nd (w.heap.size + 1) _ w55_ (.agg #[.int .i64 20, .string ⟨#[115, 112, 108, 105, 116]⟩, .float .f64 0, .slice (some ⟨w51_.heap.size, 0, none⟩) 3 3, .complex .f64 0 0])) := zh (HK56.out.mk zi);clear HK56;obtain ⟨l_R, xR_0, xR_1, xR_2, xR_3, xR_4, yR_0, yR_1, yR_2, yR_3, yR_4⟩ := cf5 HB56.out.res
  go_wp2_with fail
  refine ret_at (v := .agg #[.int .i64 20, .string ⟨#[115, 112, 108, 105, 116]⟩, .float .f64 0, .slice (some ⟨w51_.heap.size, 0, none⟩) 3 3, .complex .f64 0 0]) (fun U => Keeps [w.heap.size] w55_ U ∧ U.heap[w.heap.size]? = some (.cells #[.int .i64 20, .string ⟨#[115, 112, 108, 105, 116]⟩, .float .f64 0, .slice (some ⟨w51_.heap.size, 0, none⟩) 3 3, .complex .f64 0 0] 50 (0, 0))) ⟨zg, (za HB56.out.res)⟩ (fun U hU => ?_) rfl (fun U hU => ?_)
  ·obtain ⟨-, x0, x1, x2, x3, x4, -⟩ := cf5 hU.2;exact qpb
  exact HB56.out.fin HH55.out hU.1 qg qg
 ·go_wp2_with fail
  have hk := kD (k0 [] w1_);have HB58 := zh (HB2.out.kp hk);clear hk HB2
  go_region_held3 (fun _ => True) (trivial)
   (first
    | (
        go_at_call 29
        refine (one_any HB58.out.fix HB58.out.mak qg 2 qg qg).mono ?_;rintro r w59_ ⟨q, hq_q, rfl, hm, hk⟩;have HB60 := zh (HB58.out.call hm hk);clear hk hm HB58;have hi_q : (q : Int) < 2 := by omega)
    | (
        go_at_call 56
        refine (regex_any HB60.out.here qg).mono ?_;rintro r w61_ ⟨v, rfl, hn, hm, hk⟩;obtain ⟨k61, nm61, nu61, a61, l61, c61, re61, im61, rfl⟩ := hn.shape;have HB62 := zh (HB60.out.call hm hk);have HN61 := zh (HB60.out.node hn);clear hn;clear hk hm HB60)
    | (
        go_at_call 33
        refine (leaf_any HB62.out.here qg).mono ?_;rintro r w63_ ⟨v, rfl, hn, hm, hk⟩;obtain ⟨k63, nm63, nu63, a63, l63, c63, re63, im63, rfl⟩ := hn.shape;have HB64 := zh (HB62.out.call hm hk);have HN64_n61 := zh (HB62.out.nd hk HN61.out);have HN63 := zh (HB62.out.node hn);clear hn;clear hk hm HB62 HN61)
    | (
        go_at_call 54
        refine (HLV.out _ _ HB64.out.here qg).mono ?_;rintro r w65_ ⟨v, rfl, hn, hm, hk⟩;obtain ⟨k65, nm65, nu65, a65, l65, c65, re65, im65, rfl⟩ := hn.shape;have HB66 := zh (HB64.out.call hm hk);have HN66_n61 := zh (HB64.out.nd hk HN64_n61.out);have HN66_n63 := zh (HB64.out.nd hk HN63.out);have HN65 := zh (HB64.out.node hn);clear hn;clear hk hm HB64 HN64_n61 HN63)
    | (
        go_at_call 32
        refine calls_at (fun V => Keeps [] w65_ V ∧ V.heap[w65_.heap.size]? = some (.cells #[.int .i64 k61, .string nm61, .float .f64 nu61, .slice a61 l61 c61, .complex .f64 re61 im61, .int .i64 k63, .string nm63, .float .f64 nu63, .slice a63 l63 c63, .complex .f64 re63 im63, .int .i64 k65, .string nm65, .float .f64 nu65, .slice a65 l65 c65, .complex .f64 re65 im65] 50 (0, 0))) ⟨zg, ja⟩ ?_;rintro w67_ ⟨hk, hr⟩;have HB68 := zh (HB66.out.kp hk);have HN68_n61 := zh (HN66_n61.out.step hk jg);have HN68_n63 := zh (HN66_n63.out.step hk jg);have HN68_n65 := zh (HN65.out.step hk jg);have HK67 := zh (Kd.row3 hr HB66.out.b HN68_n61.out HN68_n63.out HN68_n65.out);clear hr;clear hk HB66 HN66_n61 HN66_n63 HN65;clear HN68_n61;clear HN68_n63;clear HN68_n65;refine jrb ?_;rintro r w69_ ⟨rfl, hk⟩;have HB70 := zh (HB68.out.kp hk);have HK70 := zh (HK67.out.step hk jg);clear hk HB68 HK67;have HH69 : Hid (Nd (w.heap.size + 1) _ w69_ (.agg #[.int .i64 20, .string (pickS [⟨#[115, 117, 98]⟩, ⟨#[103, 115, 117, 98]⟩] q), .float .f64 0, .slice (some ⟨w65_.heap.size, 0, none⟩) 3 3, .complex .f64 0 0])) := zh (HK70.out.mk zi);clear HK70;obtain ⟨l_R, xR_0, xR_1, xR_2, xR_3, xR_4, yR_0, yR_1, yR_2, yR_3, yR_4⟩ := cf5 HB70.out.res))
  all_goals
   go_wp2_with fail
   refine ret_at (v := .agg #[.int .i64 20, .string (pickS [⟨#[115, 117, 98]⟩, ⟨#[103, 115, 117, 98]⟩] q), .float .f64 0, .slice (some ⟨w65_.heap.size, 0, none⟩) 3 3, .complex .f64 0 0]) (fun U => Keeps [w.heap.size] w69_ U ∧ U.heap[w.heap.size]? = some (.cells #[.int .i64 20, .string (pickS [⟨#[115, 117, 98]⟩, ⟨#[103, 115, 117, 98]⟩] q), .float .f64 0, .slice (some ⟨w65_.heap.size, 0, none⟩) 3 3, .complex .f64 0 0] 50 (0, 0))) ⟨zg, (za HB70.out.res)⟩ (fun U hU => ?_) rfl (fun U hU => ?_)
   ·obtain ⟨-, x0, x1, x2, x3, x4, -⟩ := cf5 hU.2;exact qpb
   exact HB70.out.fin HH69.out hU.1 qg qg
 ·go_wp2_with fail
  have hk := kD (k0 [] w1_);have HB72 := zh (HB2.out.kp hk);clear hk HB2
  go_region_held3 (fun _ => True) (trivial)
   (first
    | (
        go_at_call 29
        refine (one_any HB72.out.fix HB72.out.mak qg 2 qg qg).mono ?_;rintro r w73_ ⟨q, hq_q, rfl, hm, hk⟩;have HB74 := zh (HB72.out.call hm hk);clear hk hm HB72;have hi_q : (q : Int) < 2 := by omega)
    | (
        go_at_call 56
        refine (regex_any HB74.out.here qg).mono ?_;rintro r w75_ ⟨v, rfl, hn, hm, hk⟩;obtain ⟨k75, nm75, nu75, a75, l75, c75, re75, im75, rfl⟩ := hn.shape;have HB76 := zh (HB74.out.call hm hk);have HN75 := zh (HB74.out.node hn);clear hn;clear hk hm HB74)
    | (
        go_at_call 32
        refine jrb ?_;rintro r w77_ ⟨rfl, hk⟩;have HB78 := zh (HB76.out.kp hk);have HN78_n75 := zh (HN75.out.step hk jg);clear hk HB76 HN75;have HH77 : Hid (Nd (w.heap.size + 1) 1 w77_ (.agg #[.int .i64 2, .string ⟨#[60, 38, 62]⟩, .float .f64 0, .slice none 0 0, .complex .f64 0 0])) := zh (Nd.leaf _ _ _ _ _ _ _))
    | (
        go_at_call 32
        refine calls_at (fun V => Keeps [] w77_ V ∧ V.heap[w77_.heap.size]? = some (.cells #[.int .i64 k75, .string nm75, .float .f64 nu75, .slice a75 l75 c75, .complex .f64 re75 im75, .int .i64 2, .string ⟨#[60, 38, 62]⟩, .float .f64 0, .slice none 0 0, .complex .f64 0 0] 50 (0, 0))) ⟨zg, ja⟩ ?_;rintro w79_ ⟨hk, hr⟩;have HB80 := zh (HB78.out.kp hk);have HN80_n75 := zh (HN78_n75.out.step hk jg);have HN80_h77 := zh (HH77.out.step hk jg);have HK79 := zh (Kd.row2 hr HB78.out.b HN80_n75.out HN80_h77.out);clear hr;clear hk HB78 HN78_n75 HH77;clear HN80_n75;clear HN80_h77;refine jrb ?_;rintro r w81_ ⟨rfl, hk⟩;have HB82 := zh (HB80.out.kp hk);have HK82 := zh (HK79.out.step hk jg);clear hk HB80 HK79;have HH81 : Hid (Nd (w.heap.size + 1) _ w81_ (.agg #[.int .i64 20, .string (pickS [⟨#[115, 117, 98]⟩, ⟨#[103, 115, 117, 98]⟩] q), .float .f64 0, .slice (some ⟨w77_.heap.size, 0, none⟩) 2 2, .complex .f64 0 0])) := zh (HK82.out.mk zi);clear HK82;obtain ⟨l_R, xR_0, xR_1, xR_2, xR_3, xR_4, yR_0, yR_1, yR_2, yR_3, yR_4⟩ := cf5 HB82.out.res))
  all_goals
   go_wp2_with fail
   refine ret_at (v := .agg #[.int .i64 20, .string (pickS [⟨#[115, 117, 98]⟩, ⟨#[103, 115, 117, 98]⟩] q), .float .f64 0, .slice (some ⟨w77_.heap.size, 0, none⟩) 2 2, .complex .f64 0 0]) (fun U => Keeps [w.heap.size] w81_ U ∧ U.heap[w.heap.size]? = some (.cells #[.int .i64 20, .string (pickS [⟨#[115, 117, 98]⟩, ⟨#[103, 115, 117, 98]⟩] q), .float .f64 0, .slice (some ⟨w77_.heap.size, 0, none⟩) 2 2, .complex .f64 0 0] 50 (0, 0))) ⟨zg, (za HB82.out.res)⟩ (fun U hU => ?_) rfl (fun U hU => ?_)
   ·obtain ⟨-, x0, x1, x2, x3, x4, -⟩ := cf5 hU.2;exact qpb
   exact HB82.out.fin HH81.out hU.1 qg qg
 ·go_wp2_with fail
  refine zwb ?_;rintro r w83_ ⟨v, rfl, hn, hm, hk⟩;obtain ⟨k83, nm83, nu83, a83, l83, c83, re83, im83, rfl⟩ := hn.shape;have HB84 := zh (HB2.out.call hm hk);have HN83 := zh (HB2.out.node hn);clear hn;clear hk hm HB2
  go_wp2_with fail
  refine (regex_any HB84.out.here qg).mono ?_;rintro r w85_ ⟨v, rfl, hn, hm, hk⟩;obtain ⟨k85, nm85, nu85, a85, l85, c85, re85, im85, rfl⟩ := hn.shape;have HB86 := zh (HB84.out.call hm hk);have HN86_n83 := zh (HB84.out.nd hk HN83.out);have HN85 := zh (HB84.out.node hn);clear hn;clear hk hm HB84 HN83
  go_wp2_with fail
  refine calls_at (fun V => Keeps [] w85_ V ∧ V.heap[w85_.heap.size]? = some (.cells #[.int .i64 k83, .string nm83, .float .f64 nu83, .slice a83 l83 c83, .complex .f64 re83 im83, .int .i64 k85, .string nm85, .float .f64 nu85, .slice a85 l85 c85, .complex .f64 re85 im85] 50 (0, 0))) ⟨zg, ja⟩ ?_;rintro w87_ ⟨hk, hr⟩;have HB88 := zh (HB86.out.kp hk);have HN88_n83 := zh (HN86_n83.out.step hk jg);have HN88_n85 := zh (HN85.out.step hk jg);have HK87 := zh (Kd.row2 hr HB86.out.b HN88_n83.out HN88_n85.out);clear hr;clear hk HB86 HN86_n83 HN85;clear HN88_n83;clear HN88_n85;refine jrb ?_;rintro r w89_ ⟨rfl, hk⟩;have HB90 := zh (HB88.out.kp hk);have HK90 := zh (HK87.out.step hk jg);clear hk HB88 HK87;have HH89 : Hid (Nd (w.heap.size + 1) _ w89_ (.agg #[.int .i64 20, .string ⟨#[109, 97, 116, 99, 104]⟩, .float .f64 0, .slice (some ⟨w85_.heap.size, 0, none⟩) 2 2, .complex .f64 0 0])) := zh (HK90.out.mk zi);clear HK90;obtain ⟨l_R, xR_0, xR_1, xR_2, xR_3, xR_4, yR_0, yR_1, yR_2, yR_3, yR_4⟩ := cf5 HB90.out.res
  go_wp2_with fail
  refine ret_at (v := .agg #[.int .i64 20, .string ⟨#[109, 97, 116, 99, 104]⟩, .float .f64 0, .slice (some ⟨w85_.heap.size, 0, none⟩) 2 2, .complex .f64 0 0]) (fun U => Keeps [w.heap.size] w89_ U ∧ U.heap[w.heap.size]? = some (.cells #[.int .i64 20, .string ⟨#[109, 97, 116, 99, 104]⟩, .float .f64 0, .slice (some ⟨w85_.heap.size, 0, none⟩) 2 2, .complex .f64 0 0] 50 (0, 0))) ⟨zg, (za HB90.out.res)⟩ (fun U hU => ?_) rfl (fun U hU => ?_)
  ·obtain ⟨-, x0, x1, x2, x3, x4, -⟩ := cf5 hU.2;exact qpb
  exact HB90.out.fin HH89.out hU.1 qg qg
 ·go_wp2_with fail
  refine jrb ?_;rintro r w91_ ⟨rfl, hk⟩;have HB92 := zh (HB2.out.kp hk);clear hk HB2;have HH91 : Hid (Nd (w.heap.size + 1) 1 w91_ (.agg #[.int .i64 2, .string ⟨#[37, 100, 124, 37, 115, 124, 37, 99, 124, 37, 53, 46, 50, 102]⟩, .float .f64 0, .slice none 0 0, .complex .f64 0 0])) := zh (Nd.leaf _ _ _ _ _ _ _)
  go_wp2_with fail
  refine (HE.out _ _ HB92.out.here qg).mono ?_;rintro r w93_ ⟨v, rfl, hn, hm, hk⟩;obtain ⟨k93, nm93, nu93, a93, l93, c93, re93, im93, rfl⟩ := hn.shape;have HB94 := zh (HB92.out.call hm hk);have HN94_h91 := zh (HB92.out.nd hk HH91.out);have HN93 := zh (HB92.out.node hn);clear hn;clear hk hm HB92 HH91
  go_wp2_with fail
  refine (HE.out _ _ HB94.out.here qg).mono ?_;rintro r w95_ ⟨v, rfl, hn, hm, hk⟩;obtain ⟨k95, nm95, nu95, a95, l95, c95, re95, im95, rfl⟩ := hn.shape;have HB96 := zh (HB94.out.call hm hk);have HN96_h91 := zh (HB94.out.nd hk HN94_h91.out);have HN96_n93 := zh (HB94.out.nd hk HN93.out);have HN95 := zh (HB94.out.node hn);clear hn;clear hk hm HB94 HN94_h91 HN93
  go_wp2_with fail
  refine (leaf_any HB96.out.here qg).mono ?_;rintro r w97_ ⟨v, rfl, hn, hm, hk⟩;obtain ⟨k97, nm97, nu97, a97, l97, c97, re97, im97, rfl⟩ := hn.shape;have HB98 := zh (HB96.out.call hm hk);have HN98_h91 := zh (HB96.out.nd hk HN96_h91.out);have HN98_n93 := zh (HB96.out.nd hk HN96_n93.out);have HN98_n95 := zh (HB96.out.nd hk HN95.out);have HN97 := zh (HB96.out.node hn);clear hn;clear hk hm HB96 HN96_h91 HN96_n93 HN95
  go_wp2_with fail
  refine calls_at (fun V => Keeps [] w97_ V ∧ V.heap[w97_.heap.size]? = some (.cells #[.int .i64 2, .string ⟨#[37, 100, 124, 37, 115, 124, 37, 99, 124, 37, 53, 46, 50, 102]⟩, .float .f64 0, .slice none 0 0, .complex .f64 0 0, .int .i64 k93, .string nm93, .float .f64 nu93, .slice a93 l93 c93, .complex .f64 re93 im93, .int .i64 k95, .string nm95, .float .f64 nu95, .slice a95 l95 c95, .complex .f64 re95 im95, .int .i64 k97, .string nm97, .float .f64 nu97, .slice a97 l97 c97, .complex .f64 re97 im97] 50 (0, 0))) ⟨zg, ja⟩ ?_;rintro w99_ ⟨hk, hr⟩;have HB100 := zh (HB98.out.kp hk);have HN100_h91 := zh (HN98_h91.out.step hk jg);have HN100_n93 := zh (HN98_n93.out.step hk jg);have HN100_n95 := zh (HN98_n95.out.step hk jg);have HN100_n97 := zh (HN97.out.step hk jg);have HK99 := zh (Kd.row4 hr HB98.out.b HN100_h91.out HN100_n93.out HN100_n95.out HN100_n97.out);clear hr;clear hk HB98 HN98_h91 HN98_n93 HN98_n95 HN97;clear HN100_h91;clear HN100_n93;clear HN100_n95;clear HN100_n97;refine jrb ?_;rintro r w101_ ⟨rfl, hk⟩;have HB102 := zh (HB100.out.kp hk);have HK102 := zh (HK99.out.step hk jg);clear hk HB100 HK99;have HH101 : Hid (Nd (w.heap.size + 1) _ w101_ (.agg #[.int .i64 20, .string ⟨#[115, 112, 114, 105, 110, 116, 102]⟩, .float .f64 0, .slice (some ⟨w97_.heap.size, 0, none⟩) 4 4, .complex .f64 0 0])) := zh (HK102.out.mk zi);clear HK102;obtain ⟨l_R, xR_0, xR_1, xR_2, xR_3, xR_4, yR_0, yR_1, yR_2, yR_3, yR_4⟩ := cf5 HB102.out.res
  go_wp2_with fail
  refine ret_at (v := .agg #[.int .i64 20, .string ⟨#[115, 112, 114, 105, 110, 116, 102]⟩, .float .f64 0, .slice (some ⟨w97_.heap.size, 0, none⟩) 4 4, .complex .f64 0 0]) (fun U => Keeps [w.heap.size] w101_ U ∧ U.heap[w.heap.size]? = some (.cells #[.int .i64 20, .string ⟨#[115, 112, 114, 105, 110, 116, 102]⟩, .float .f64 0, .slice (some ⟨w97_.heap.size, 0, none⟩) 4 4, .complex .f64 0 0] 50 (0, 0))) ⟨zg, (za HB102.out.res)⟩ (fun U hU => ?_) rfl (fun U hU => ?_)
  ·obtain ⟨-, x0, x1, x2, x3, x4, -⟩ := cf5 hU.2;exact qpb
  exact HB102.out.fin HH101.out hU.1 qg qg
 ·go_wp2_with fail
  have hk := kD (k0 [] w1_);have HB104 := zh (HB2.out.kp hk);clear hk HB2
  go_region_held3 (fun _ => True) (trivial)
   (first
    | (
        go_at_call 29
        refine (one_any HB104.out.fix HB104.out.mak qg 6 qg qg).mono ?_;rintro r w105_ ⟨q, hq_q, rfl, hm, hk⟩;have HB106 := zh (HB104.out.call hm hk);clear hk hm HB104;have hi_q : (q : Int) < 6 := by omega)
    | (
        go_at_call 30
        refine (HE.out _ _ HB106.out.here qg).mono ?_;rintro r w107_ ⟨v, rfl, hn, hm, hk⟩;obtain ⟨k107, nm107, nu107, a107, l107, c107, re107, im107, rfl⟩ := hn.shape;have HB108 := zh (HB106.out.call hm hk);have HN107 := zh (HB106.out.node hn);clear hn;clear hk hm HB106)
    | (
        go_at_call 32
        refine calls_at (fun V => Keeps [] w107_ V ∧ V.heap[w107_.heap.size]? = some (.cells #[.int .i64 k107, .string nm107, .float .f64 nu107, .slice a107 l107 c107, .complex .f64 re107 im107] 50 (0, 0))) ⟨zg, ja⟩ ?_;rintro w109_ ⟨hk, hr⟩;have HB110 := zh (HB108.out.kp hk);have HN110_n107 := zh (HN107.out.step hk jg);have HK109 := zh (Kd.row1 hr HB108.out.b HN110_n107.out);clear hr;clear hk HB108 HN107;clear HN110_n107;refine jrb ?_;rintro r w111_ ⟨rfl, hk⟩;have HB112 := zh (HB110.out.kp hk);have HK112 := zh (HK109.out.step hk jg);clear hk HB110 HK109;have HH111 : Hid (Nd (w.heap.size + 1) _ w111_ (.agg #[.int .i64 20, .string (pickS [⟨#[116, 111, 108, 111, 119, 101, 114]⟩, ⟨#[116, 111, 117, 112, 112, 101, 114]⟩, ⟨#[105, 110, 116]⟩, ⟨#[115, 113, 114, 116]⟩, ⟨#[101, 120, 112]⟩, ⟨#[99, 111, 115]⟩] q), .float .f64 0, .slice (some ⟨w107_.heap.size, 0, none⟩) 1 1, .complex .f64 0 0])) := zh (HK112.out.mk zi);clear HK112;obtain ⟨l_R, xR_0, xR_1, xR_2, xR_3, xR_4, yR_0, yR_1, yR_2, yR_3, yR_4⟩ := cf5 HB112.out.res))
  all_goals
   go_wp2_with fail
   refine ret_at (v := .agg #[.int .i64 20, .string (pickS [⟨#[116, 111, 108, 111, 119, 101, 114]⟩, ⟨#[116, 111, 117, 112, 112, 101, 114]⟩, ⟨#[105, 110, 116]⟩, ⟨#[115, 113, 114, 116]⟩, ⟨#[101, 120, 112]⟩, ⟨#[99, 111, 115]⟩] q), .float .f64 0, .slice (some ⟨w107_.heap.size, 0, none⟩) 1 1, .complex .f64 0 0]) (fun U => Keeps [w.heap.size] w111_ U ∧ U.heap[w.heap.size]? = some (.cells #[.int .i64 20, .string (pickS [⟨#[116, 111, 108, 111, 119, 101, 114]⟩, ⟨#[116, 111, 117, 112, 112, 101, 114]⟩, ⟨#[105, 110, 116]⟩, ⟨#[115, 113, 114, 116]⟩, ⟨#[101, 120, 112]⟩, ⟨#[99, 111, 115]⟩] q), .float .f64 0, .slice (some ⟨w107_.heap.size, 0, none⟩) 1 1, .complex .f64 0 0] 50 (0, 0))) ⟨zg, (za HB112.out.res)⟩ (fun U hU => ?_) rfl (fun U hU => ?_)
   ·obtain ⟨-, x0, x1, x2, x3, x4, -⟩ := cf5 hU.2;exact qpb
   exact HB112.out.fin HH111.out hU.1 qg qg
 ·go_wp2_with fail
  refine (one_int HB2.out.fix HB2.out.mak qg 2 qg qg).mono ?_;rintro r w113_ ⟨y, h0_y, h1_y, rfl, hm, hk⟩;have HB114 := zh (HB2.out.call hm hk);clear hk hm HB2;clear h0_y h1_y
  by_cases hy0 : y = 0
  ·subst hy0
   go_wp2_with fail
   refine (leaf_any HB114.out.here qg).mono ?_;rintro r w115_ ⟨v, rfl, hn, hm, hk⟩;obtain ⟨k115, nm115, nu115, a115, l115, c115, re115, im115, rfl⟩ := hn.shape;have HB116 := zh (HB114.out.call hm hk);have HN115 := zh (HB114.out.node hn);clear hn;clear hk hm HB114
   go_wp2_with fail
   refine calls_at (fun V => Keeps [] w115_ V ∧ V.heap[w115_.heap.size]? = some (.cells #[.int .i64 k115, .string nm115, .float .f64 nu115, .slice a115 l115 c115, .complex .f64 re115 im115] 50 (0, 0))) ⟨zg, ja⟩ ?_;rintro w117_ ⟨hk, hr⟩;have HB118 := zh (HB116.out.kp hk);have HN118_n115 := zh (HN115.out.step hk jg);have HK117 := zh (Kd.row1 hr HB116.out.b HN118_n115.out);clear hr;clear hk HB116 HN115;clear HN118_n115;refine jrb ?_;rintro r w119_ ⟨rfl, hk⟩;have HB120 := zh (HB118.out.kp hk);have HK120 := zh (HK117.out.step hk jg);clear hk HB118 HK117;have HH119 : Hid (Nd (w.heap.size + 1) _ w119_ (.agg #[.int .i64 20, .string ⟨#[115, 114, 97, 110, 100]⟩, .float .f64 0, .slice (some ⟨w115_.heap.size, 0, none⟩) 1 1, .complex .f64 0 0])) := zh (HK120.out.mk zi);clear HK120;obtain ⟨l_R, xR_0, xR_1, xR_2, xR_3, xR_4, yR_0, yR_1, yR_2, yR_3, yR_4⟩ := cf5 HB120.out.res
   go_wp2_with fail
   refine ret_at (v := .agg #[.int .i64 20, .string ⟨#[115, 114, 97, 110, 100]⟩, .float .f64 0, .slice (some ⟨w115_.heap.size, 0, none⟩) 1 1, .complex .f64 0 0]) (fun U => Keeps [w.heap.size] w119_ U ∧ U.heap[w.heap.size]? = some (.cells #[.int .i64 20, .string ⟨#[115, 114, 97, 110, 100]⟩, .float .f64 0, .slice (some ⟨w115_.heap.size, 0, none⟩) 1 1, .complex .f64 0 0] 50 (0, 0))) ⟨zg, (za HB120.out.res)⟩ (fun U hU => ?_) rfl (fun U hU => ?_)
   ·obtain ⟨-, x0, x1, x2, x3, x4, -⟩ := cf5 hU.2;exact qpb
   exact HB120.out.fin HH119.out hU.1 qg qg
  have hy : (y == 0) = false := beq_false_of_ne hy0
  go_wp2_with fail
  refine jrb ?_;rintro r w121_ ⟨rfl, hk⟩;have HB122 := zh (HB114.out.kp hk);clear hk HB114;have HH121 : Hid (Nd (w.heap.size + 1) 1 w121_ (.agg #[.int .i64 20, .string ⟨#[114, 97, 110, 100]⟩, .float .f64 0, .slice none 0 0, .complex .f64 0 0])) := zh (Nd.leaf _ _ _ _ _ _ _);obtain ⟨l_R, xR_0, xR_1, xR_2, xR_3, xR_4, yR_0, yR_1, yR_2, yR_3, yR_4⟩ := cf5 HB122.out.res
  go_wp2_with fail
  refine ret_at (v := .agg #[.int .i64 20, .string ⟨#[114, 97, 110, 100]⟩, .float .f64 0, .slice none 0 0, .complex .f64 0 0]) (fun U => Keeps [w.heap.size] w121_ U ∧ U.heap[w.heap.size]? = some (.cells #[.int .i64 20, .string ⟨#[114, 97, 110, 100]⟩, .float .f64 0, .slice none 0 0, .complex .f64 0 0] 50 (0, 0))) ⟨zg, (za HB122.out.res)⟩ (fun U hU => ?_) rfl (fun U hU => ?_)
  ·obtain ⟨-, x0, x1, x2, x3, x4, -⟩ := cf5 hU.2;exact qpb
  exact HB122.out.fin HH121.out hU.1 qg qg
 ·go_wp2_with fail
  refine (array_any HB2.out.here qg).mono ?_;rintro r w123_ ⟨s123, rfl, hm, hk⟩;have HB124 := zh (HB2.out.call hm hk);clear hk hm HB2
  go_wp2_with fail
  refine jrb ?_;rintro r w125_ ⟨rfl, hk⟩;have HB126 := zh (HB124.out.kp hk);clear hk HB124;have HH125 : Hid (Nd (w.heap.size + 1) 1 w125_ (.agg #[.int .i64 4, .string s123, .float .f64 0, .slice none 0 0, .complex .f64 0 0])) := zh (Nd.leaf _ _ _ _ _ _ _)
  go_wp2_with fail
  refine (leaf_any HB126.out.here qg).mono ?_;rintro r w127_ ⟨v, rfl, hn, hm, hk⟩;obtain ⟨k127, nm127, nu127, a127, l127, c127, re127, im127, rfl⟩ := hn.shape;have HB128 := zh (HB126.out.call hm hk);have HN128_h125 := zh (HB126.out.nd hk HH125.out);have HN127 := zh (HB126.out.node hn);clear hn;clear hk hm HB126 HH125
  go_wp2_with fail
  refine calls_at (fun V => Keeps [] w127_ V ∧ V.heap[w127_.heap.size]? = some (.cells #[.int .i64 4, .string s123, .float .f64 0, .slice none 0 0, .complex .f64 0 0, .int .i64 k127, .string nm127, .float .f64 nu127, .slice a127 l127 c127, .complex .f64 re127 im127] 50 (0, 0))) ⟨zg, ja⟩ ?_;rintro w129_ ⟨hk, hr⟩;have HB130 := zh (HB128.out.kp hk);have HN130_h125 := zh (HN128_h125.out.step hk jg);have HN130_n127 := zh (HN127.out.step hk jg);have HK129 := zh (Kd.row2 hr HB128.out.b HN130_h125.out HN130_n127.out);clear hr;clear hk HB128 HN128_h125 HN127;clear HN130_h125;clear HN130_n127;refine jrb ?_;rintro r w131_ ⟨rfl, hk⟩;have HB132 := zh (HB130.out.kp hk);have HK132 := zh (HK129.out.step hk jg);clear hk HB130 HK129;have HH131 : Hid (Nd (w.heap.size + 1) _ w131_ (.agg #[.int .i64 20, .string ⟨#[101, 120, 112, 105, 114, 101]⟩, .float .f64 0, .slice (some ⟨w127_.heap.size, 0, none⟩) 2 2, .complex .f64 0 0])) := zh (HK132.out.mk zi);clear HK132;obtain ⟨l_R, xR_0, xR_1, xR_2, xR_3, xR_4, yR_0, yR_1, yR_2, yR_3, yR_4⟩ := cf5 HB132.out.res
  go_wp2_with fail
  refine ret_at (v := .agg #[.int .i64 20, .string ⟨#[101, 120, 112, 105, 114, 101]⟩, .float .f64 0, .slice (some ⟨w127_.heap.size, 0, none⟩) 2 2, .complex .f64 0 0]) (fun U => Keeps [w.heap.size] w131_ U ∧ U.heap[w.heap.size]? = some (.cells #[.int .i64 20, .string ⟨#[101, 120, 112, 105, 114, 101]⟩, .float .f64 0, .slice (some ⟨w127_.heap.size, 0, none⟩) 2 2, .complex .f64 0 0] 50 (0, 0))) ⟨zg, (za HB132.out.res)⟩ (fun U hU => ?_) rfl (fun U hU => ?_)
  ·obtain ⟨-, x0, x1, x2, x3, x4, -⟩ := cf5 hU.2;exact qpb
  exact HB132.out.fin HH131.out hU.1 qg qg
 go_wp2_with fail
 refine jrb ?_;rintro r w133_ ⟨rfl, hk⟩;have HB134 := zh (HB2.out.kp hk);clear hk HB2;have HH133 : Hid (Nd (w.heap.size + 1) 1 w133_ (.agg #[.int .i64 20, .string ⟨#[108, 101, 110, 103, 116, 104]⟩, .float .f64 0, .slice none 0 0, .complex .f64 0 0])) := zh (Nd.leaf _ _ _ _ _ _ _);obtain ⟨l_R, xR_0, xR_1, xR_2, xR_3, xR_4, yR_0, yR_1, yR_2, yR_3, yR_4⟩ := cf5 HB134.out.res
 go_wp2_with fail
 refine ret_at (v := .agg #[.int .i64 20, .string ⟨#[108, 101, 110, 103, 116, 104]⟩, .float .f64 0, .slice none 0 0, .complex .f64 0 0]) (fun U => Keeps [w.heap.size] w133_ U ∧ U.heap[w.heap.size]? = some (.cells #[.int .i64 20, .string ⟨#[108, 101, 110, 103, 116, 104]⟩, .float .f64 0, .slice none 0 0, .complex .f64 0 0] 50 (0, 0))) ⟨zg, (za HB134.out.res)⟩ (fun U hU => ?_) rfl (fun U hU => ?_)
 ·obtain ⟨-, x0, x1, x2, x3, x4, -⟩ := cf5 hU.2;exact qpb
 exact HB134.out.fin HH133.out hU.1 qg qg
end Go.Proofs.YtkfillfkbhbbjaaGreatDoor
