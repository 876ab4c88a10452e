/- MkK, LevelsJ, LevelsK, LevelsL. -/
import Derived.Test.YtkfillfkbhbbjaaGreatDoorMkI
import Derived.Test.YtkfillfkbhbbjaaGreatDoorMkH
set_option maxRecDepth 100000
set_option maxHeartbeats 4000000
set_option linter.unusedSimpArgs false
set_option linter.unusedVariables false
namespace Go.Proofs.YtkfillfkbhbbjaaGreatDoor
open Go.RowKit
def SimI (M : MKey) (fn : Bool) (w : World) (I Z K : Nat) (g : Nat) (v j : Value) (W : World) : Prop :=
 ∃ (i : Int) (m e J : Nat), j = .int .i64 i ∧ 0 ≤ i ∧ i + m ≤ 3 ∧ i + 1 ≤ g ∧ J ≤ I + 3 + m * K ∧ BnR M J fn w W ∧ Ow (w.heap.size + 1) e (m * Z) m W v ∧ e ≤ W.heap.size ∧ w.heap.size + 1 ≤ e
set_option maxHeartbeats 8000000 in
theorem simple_any {M : MKey} {I : Nat} {fn : Bool} {w : World} (h : Bn M I fn w w) {d : Int} {Z K Z' K' : Nat} (hE : ExprC M fn d Z K) (hZ : 3 * Z + 1 ≤ Z' ∧ Z + 4 ≤ Z') (hK : 3 * K + 40 ≤ K') (hI : I + K' ≤ 1000000000000) : Calls Tryz.prog 89 #[.pointer (some ⟨M.k, 0, none⟩), .int .i64 d] w fun r w' => NodeP M Z' K' I fn w r w' := by
 have H0 := zh h;clear h
 go_enter Tryz.func89, Tryz.ntmps89
 have HE := zh hE; have H_lt := zh H0.out.lt;clear hE
 go_wp2_with fail
 refine zrb ?_;rintro w1 ⟨hk, hr⟩;have HB1 := zh (BnR.start H0.out hk hr);clear hk hr H0
 go_wp2_with fail
 refine (one_int HB1.out.fix HB1.out.mak qg 8 qg qg).mono ?_;rintro r w1_ ⟨z, h0_z, h1_z, rfl, hm, hk⟩;have HB2 := zh (HB1.out.call hm hk);clear hk hm HB1;have hz : z = 0 ∨ z = 1 ∨ z = 2 ∨ z = 3 ∨ z = 4 ∨ z = 5 ∨ z = 6 ∨ z = 7 := by omega
 clear h0_z h1_z
 rcases hz with rfl | rfl | rfl | rfl | rfl | rfl | rfl | rfl
 ·go_wp2_with fail
  refine (one_int HB2.out.fix HB2.out.mak qg 4 qg qg).mono ?_;rintro r w3_ ⟨c, h0_c, h1_c, rfl, hm, hk⟩;have HB4 := zh (HB2.out.call hm hk);clear hk hm HB2
  go_wp2_with fail
  have hs0 := HB4.out.b
  go_loopg [5, 6] (4) (fun g v j wr => SimI M fn w I Z K g v j wr)
  case atStart => exact ⟨c, 0, w3_.heap.size, _, rfl, h0_c, by omega, by omega, by omega, HB4.out, by rw [Nat.zero_mul]; exact Ow.nil _ _ _, Nat.le_refl _, hs0⟩
  obtain ⟨c, m, e, J, rfl, hc0, hcm, hcg, hJ, hB, hO, he, he2⟩ := hrel;have HBr := zh hB; have HO := zh hO; have HEE := zh he; have H_b := zh he2;clear hB hO he he2;obtain ⟨aa, cc, rfl⟩ := HO.out.slice
  by_cases hlt : 0 < c
  ·have hcw : IntKind.i64.wrap (c - 1) = c - 1 := wrap_id qg qg;have hmk := Nat.mul_le_mul_right K (show m + 1 ≤ 3 by omega);have e1 := Nat.succ_mul m K;have e2 := Nat.succ_mul m Z;simp only [Nat.succ_eq_add_one] at e1 e2
   go_wp2_with fail
   refine (HE.out _ _ HBr.out.here qg).mono ?_;rintro r w5_ ⟨v, rfl, hn, hm, hk⟩;obtain ⟨k5, nm5, nu5, a5, l5, c5, re5, im5, rfl⟩ := hn.shape;have HEE5 := HEE;have HS5 := zh hn;clear hn;have HO6 := zh (HO.out.step hk zo);have HE6 := zh (Nat.le_trans HEE.out hk.size);have HB7 := zh (HBr.out.call hm hk);clear hk hm HBr HO HEE
   go_wp2_with (
    at_builtin
    go_loud (
     refine list_at (fun V => Keeps [] w5_ V ∧ V.heap[w5_.heap.size]? = some (.cells #[.int .i64 k5, .string nm5, .float .f64 nu5, .slice a5 l5 c5, .complex .f64 re5 im5] 50 (0, 0))) ⟨zg, ja⟩ ?_;rintro w8_ ⟨hk, hr⟩;have HS8 := zh (HS5.out.step hk jg);have hcc := hr;have HO9 := zh (HO6.out.step hk jg);have HE9 := zh (Nat.le_trans HE6.out hk.size);have HB10 := zh (HB7.out.kp hk);clear hk HB7 HO6 HE6 HS5;refine app_ow rfl (.tmp 19) (.tmp 23) rfl rfl rfl HO9.out hcc HS8.out HEE5.out HE9.out H_b.out qg ?_))
   intro va w11_ fl hfl hk hown;obtain ⟨aa11, cc11, rfl⟩ := hown.slice;have HB11 := zh (HB10.out.kpF hk (fun x hx => (hfl x hx).1));have HOWN := zh hown;clear hk hfl hown hcc HS8 HEE5 HB10 HO9 HE9
   go_wp2_with fail
   go_roundg (gk - 1)
   case measure => omega
   case rel => exact ⟨c - 1, m + 1, _, _, rfl, by omega, by omega, by omega, by omega, HB11.out, by rw [e2]; exact HOWN.out, Nat.le_refl _, by have := HB11.out.b; omega⟩
  obtain rfl : c = 0 := by omega
  exact jfd
 ·go_wp2_with fail
  refine (one_int HB2.out.fix HB2.out.mak qg 4 qg qg).mono ?_;rintro r w12_ ⟨c, h0_c, h1_c, rfl, hm, hk⟩;have HB13 := zh (HB2.out.call hm hk);clear hk hm HB2
  go_wp2_with fail
  have hs0 := HB13.out.b
  go_loopg [5, 6] (4) (fun g v j wr => SimI M fn w I Z K g v j wr)
  case atStart => exact ⟨c, 0, w12_.heap.size, _, rfl, h0_c, by omega, by omega, by omega, HB13.out, by rw [Nat.zero_mul]; exact Ow.nil _ _ _, Nat.le_refl _, hs0⟩
  obtain ⟨c, m, e, J, rfl, hc0, hcm, hcg, hJ, hB, hO, he, he2⟩ := hrel;have HBr := zh hB; have HO := zh hO; have HEE := zh he; have H_b := zh he2;clear hB hO he he2;obtain ⟨aa, cc, rfl⟩ := HO.out.slice
  by_cases hlt : 0 < c
  ·have hcw : IntKind.i64.wrap (c - 1) = c - 1 := wrap_id qg qg;have hmk := Nat.mul_le_mul_right K (show m + 1 ≤ 3 by omega);have e1 := Nat.succ_mul m K;have e2 := Nat.succ_mul m Z;simp only [Nat.succ_eq_add_one] at e1 e2
   go_wp2_with fail
   refine (HE.out _ _ HBr.out.here qg).mono ?_;rintro r w14_ ⟨v, rfl, hn, hm, hk⟩;obtain ⟨k14, nm14, nu14, a14, l14, c14, re14, im14, rfl⟩ := hn.shape;have HEE14 := HEE;have HS14 := zh hn;clear hn;have HO15 := zh (HO.out.step hk zo);have HE15 := zh (Nat.le_trans HEE.out hk.size);have HB16 := zh (HBr.out.call hm hk);clear hk hm HBr HO HEE
   go_wp2_with (
    at_builtin
    go_loud (
     refine list_at (fun V => Keeps [] w14_ V ∧ V.heap[w14_.heap.size]? = some (.cells #[.int .i64 k14, .string nm14, .float .f64 nu14, .slice a14 l14 c14, .complex .f64 re14 im14] 50 (0, 0))) ⟨zg, ja⟩ ?_;rintro w17_ ⟨hk, hr⟩;have HS17 := zh (HS14.out.step hk jg);have hcc := hr;have HO18 := zh (HO15.out.step hk jg);have HE18 := zh (Nat.le_trans HE15.out hk.size);have HB19 := zh (HB16.out.kp hk);clear hk HB16 HO15 HE15 HS14;refine app_ow rfl (.tmp 19) (.tmp 23) rfl rfl rfl HO18.out hcc HS17.out HEE14.out HE18.out H_b.out qg ?_))
   intro va w20_ fl hfl hk hown;obtain ⟨aa20, cc20, rfl⟩ := hown.slice;have HB20 := zh (HB19.out.kpF hk (fun x hx => (hfl x hx).1));have HOWN := zh hown;clear hk hfl hown hcc HS17 HEE14 HB19 HO18 HE18
   go_wp2_with fail
   go_roundg (gk - 1)
   case measure => omega
   case rel => exact ⟨c - 1, m + 1, _, _, rfl, by omega, by omega, by omega, by omega, HB20.out, by rw [e2]; exact HOWN.out, Nat.le_refl _, by have := HB20.out.b; omega⟩
  obtain rfl : c = 0 := by omega
  exact jfd
 ·go_wp2_with fail
  refine (one_int HB2.out.fix HB2.out.mak qg 4 qg qg).mono ?_;rintro r w21_ ⟨c, h0_c, h1_c, rfl, hm, hk⟩;have HB22 := zh (HB2.out.call hm hk);clear hk hm HB2
  go_wp2_with fail
  have hs0 := HB22.out.b
  go_loopg [5, 6] (4) (fun g v j wr => SimI M fn w I Z K g v j wr)
  case atStart => exact ⟨c, 0, w21_.heap.size, _, rfl, h0_c, by omega, by omega, by omega, HB22.out, by rw [Nat.zero_mul]; exact Ow.nil _ _ _, Nat.le_refl _, hs0⟩
  obtain ⟨c, m, e, J, rfl, hc0, hcm, hcg, hJ, hB, hO, he, he2⟩ := hrel;have HBr := zh hB; have HO := zh hO; have HEE := zh he; have H_b := zh he2;clear hB hO he he2;obtain ⟨aa, cc, rfl⟩ := HO.out.slice
  by_cases hlt : 0 < c
  ·have hcw : IntKind.i64.wrap (c - 1) = c - 1 := wrap_id qg qg;have hmk := Nat.mul_le_mul_right K (show m + 1 ≤ 3 by omega);have e1 := Nat.succ_mul m K;have e2 := Nat.succ_mul m Z;simp only [Nat.succ_eq_add_one] at e1 e2
   go_wp2_with fail
   refine (HE.out _ _ HBr.out.here qg).mono ?_;rintro r w23_ ⟨v, rfl, hn, hm, hk⟩;obtain ⟨k23, nm23, nu23, a23, l23, c23, re23, im23, rfl⟩ := hn.shape;have HEE23 := HEE;have HS23 := zh hn;clear hn;have HO24 := zh (HO.out.step hk zo);have HE24 := zh (Nat.le_trans HEE.out hk.size);have HB25 := zh (HBr.out.call hm hk);clear hk hm HBr HO HEE
   go_wp2_with (
    at_builtin
    go_loud (
     refine list_at (fun V => Keeps [] w23_ V ∧ V.heap[w23_.heap.size]? = some (.cells #[.int .i64 k23, .string nm23, .float .f64 nu23, .slice a23 l23 c23, .complex .f64 re23 im23] 50 (0, 0))) ⟨zg, ja⟩ ?_;rintro w26_ ⟨hk, hr⟩;have HS26 := zh (HS23.out.step hk jg);have hcc := hr;have HO27 := zh (HO24.out.step hk jg);have HE27 := zh (Nat.le_trans HE24.out hk.size);have HB28 := zh (HB25.out.kp hk);clear hk HB25 HO24 HE24 HS23;refine app_ow rfl (.tmp 19) (.tmp 23) rfl rfl rfl HO27.out hcc HS26.out HEE23.out HE27.out H_b.out qg ?_))
   intro va w29_ fl hfl hk hown;obtain ⟨aa29, cc29, rfl⟩ := hown.slice;have HB29 := zh (HB28.out.kpF hk (fun x hx => (hfl x hx).1));have HOWN := zh hown;clear hk hfl hown hcc HS26 HEE23 HB28 HO27 HE27
   go_wp2_with fail
   go_roundg (gk - 1)
   case measure => omega
   case rel => exact ⟨c - 1, m + 1, _, _, rfl, by omega, by omega, by omega, by omega, HB29.out, by rw [e2]; exact HOWN.out, Nat.le_refl _, by have := HB29.out.b; omega⟩
  obtain rfl : c = 0 := by omega
  exact jfd
 ·go_wp2_with fail
  refine jrb ?_;rintro r w30_ ⟨rfl, hk⟩;have HB31 := zh (HB2.out.kp hk);clear hk HB2;have HH30 : Hid (Nd (w.heap.size + 1) 1 w30_ (.agg #[.int .i64 2, .string ⟨#[37, 115, 32, 37, 100, 10]⟩, .float .f64 0, .slice none 0 0, .complex .f64 0 0])) := zh (Nd.leaf _ _ _ _ _ _ _)
  go_wp2_with fail
  refine (HE.out _ _ HB31.out.here qg).mono ?_;rintro r w32_ ⟨v, rfl, hn, hm, hk⟩;obtain ⟨k32, nm32, nu32, a32, l32, c32, re32, im32, rfl⟩ := hn.shape;have HB33 := zh (HB31.out.call hm hk);have HN33_h30 := zh (HB31.out.nd hk HH30.out);have HN32 := zh (HB31.out.node hn);clear hn;clear hk hm HB31 HH30
  go_wp2_with fail
  refine (leaf_any HB33.out.here qg).mono ?_;rintro r w34_ ⟨v, rfl, hn, hm, hk⟩;obtain ⟨k34, nm34, nu34, a34, l34, c34, re34, im34, rfl⟩ := hn.shape;have HB35 := zh (HB33.out.call hm hk);have HN35_h30 := zh (HB33.out.nd hk HN33_h30.out);have HN35_n32 := zh (HB33.out.nd hk HN32.out);have HN34 := zh (HB33.out.node hn);clear hn;clear hk hm HB33 HN33_h30 HN32
  go_wp2_with fail
  refine calls_at (fun V => Keeps [] w34_ V ∧ V.heap[w34_.heap.size]? = some (.cells #[.int .i64 2, .string ⟨#[37, 115, 32, 37, 100, 10]⟩, .float .f64 0, .slice none 0 0, .complex .f64 0 0, .int .i64 k32, .string nm32, .float .f64 nu32, .slice a32 l32 c32, .complex .f64 re32 im32, .int .i64 k34, .string nm34, .float .f64 nu34, .slice a34 l34 c34, .complex .f64 re34 im34] 50 (0, 0))) ⟨zg, ja⟩ ?_;rintro w36_ ⟨hk, hr⟩;have HB37 := zh (HB35.out.kp hk);have HN37_h30 := zh (HN35_h30.out.step hk jg);have HN37_n32 := zh (HN35_n32.out.step hk jg);have HN37_n34 := zh (HN34.out.step hk jg);have HK36 := zh (Kd.row3 hr HB35.out.b HN37_h30.out HN37_n32.out HN37_n34.out);clear hr;clear hk HB35 HN35_h30 HN35_n32 HN34;clear HN37_h30;clear HN37_n32;clear HN37_n34;refine jrb ?_;rintro r w38_ ⟨rfl, hk⟩;have HB39 := zh (HB37.out.kp hk);have HK39 := zh (HK36.out.step hk jg);clear hk HB37 HK36;have HH38 : Hid (Nd (w.heap.size + 1) _ w38_ (.agg #[.int .i64 43, .string ⟨#[]⟩, .float .f64 0, .slice (some ⟨w34_.heap.size, 0, none⟩) 3 3, .complex .f64 0 0])) := zh (HK39.out.mk zi);clear HK39;obtain ⟨l_R, xR_0, xR_1, xR_2, xR_3, xR_4, yR_0, yR_1, yR_2, yR_3, yR_4⟩ := cf5 HB39.out.res
  go_wp2_with fail
  refine ret_at (v := .agg #[.int .i64 43, .string ⟨#[]⟩, .float .f64 0, .slice (some ⟨w34_.heap.size, 0, none⟩) 3 3, .complex .f64 0 0]) (fun U => Keeps [w.heap.size] w38_ U ∧ U.heap[w.heap.size]? = some (.cells #[.int .i64 43, .string ⟨#[]⟩, .float .f64 0, .slice (some ⟨w34_.heap.size, 0, none⟩) 3 3, .complex .f64 0 0] 50 (0, 0))) ⟨zg, (za HB39.out.res)⟩ (fun U hU => ?_) rfl (fun U hU => ?_)
  ·obtain ⟨-, x0, x1, x2, x3, x4, -⟩ := cf5 hU.2;exact qpb
  exact HB39.out.fin HH38.out hU.1 qg qg
 ·go_wp2_with fail
  refine (one_int HB2.out.fix HB2.out.mak qg 2 qg qg).mono ?_;rintro r w40_ ⟨y, h0_y, h1_y, rfl, hm, hk⟩;have HB41 := zh (HB2.out.call hm hk);clear hk hm HB2;clear h0_y h1_y
  by_cases hy0 : y = 0
  ·subst hy0
   go_wp2_with fail
   refine (array_any HB41.out.here qg).mono ?_;rintro r w42_ ⟨s42, rfl, hm, hk⟩;have HB43 := zh (HB41.out.call hm hk);clear hk hm HB41
   go_wp2_with fail
   refine jrb ?_;rintro r w44_ ⟨rfl, hk⟩;have HB45 := zh (HB43.out.kp hk);clear hk HB43;have HH44 : Hid (Nd (w.heap.size + 1) 1 w44_ (.agg #[.int .i64 41, .string s42, .float .f64 0, .slice none 0 0, .complex .f64 0 0])) := zh (Nd.leaf _ _ _ _ _ _ _);obtain ⟨l_R, xR_0, xR_1, xR_2, xR_3, xR_4, yR_0, yR_1, yR_2, yR_3, yR_4⟩ := cf5 HB45.out.res
   go_wp2_with fail
   refine ret_at (v := .agg #[.int .i64 41, .string s42, .float .f64 0, .slice none 0 0, .complex .f64 0 0]) (fun U => Keeps [w.heap.size] w44_ U ∧ U.heap[w.heap.size]? = some (.cells #[.int .i64 41, .string s42, .float .f64 0, .slice none 0 0, .complex .f64 0 0] 50 (0, 0))) ⟨zg, (za HB45.out.res)⟩ (fun U hU => ?_) rfl (fun U hU => ?_)
   ·obtain ⟨-, x0, x1, x2, x3, x4, -⟩ := cf5 hU.2;exact qpb
   exact HB45.out.fin HH44.out hU.1 qg qg
  have hy : (y == 0) = false := beq_false_of_ne hy0
  go_wp2_with fail
  refine (array_any HB41.out.here qg).mono ?_;rintro r w46_ ⟨s46, rfl, hm, hk⟩;have HB47 := zh (HB41.out.call hm hk);clear hk hm HB41
  go_wp2_with fail
  refine (HE.out _ _ HB47.out.here qg).mono ?_;rintro r w48_ ⟨v, rfl, hn, hm, hk⟩;obtain ⟨k48, nm48, nu48, a48, l48, c48, re48, im48, rfl⟩ := hn.shape;have HB49 := zh (HB47.out.call hm hk);have HN48 := zh (HB47.out.node hn);clear hn;clear hk hm HB47
  go_wp2_with fail
  refine calls_at (fun V => Keeps [] w48_ V ∧ V.heap[w48_.heap.size]? = some (.cells #[.int .i64 k48, .string nm48, .float .f64 nu48, .slice a48 l48 c48, .complex .f64 re48 im48] 50 (0, 0))) ⟨zg, ja⟩ ?_;rintro w50_ ⟨hk, hr⟩;have HB51 := zh (HB49.out.kp hk);have HN51_n48 := zh (HN48.out.step hk jg);have HK50 := zh (Kd.row1 hr HB49.out.b HN51_n48.out);clear hr;clear hk HB49 HN48;clear HN51_n48;refine jrb ?_;rintro r w52_ ⟨rfl, hk⟩;have HB53 := zh (HB51.out.kp hk);have HK53 := zh (HK50.out.step hk jg);clear hk HB51 HK50;have HH52 : Hid (Nd (w.heap.size + 1) _ w52_ (.agg #[.int .i64 41, .string s46, .float .f64 0, .slice (some ⟨w48_.heap.size, 0, none⟩) 1 1, .complex .f64 0 0])) := zh (HK53.out.mk zi);clear HK53;obtain ⟨l_R, xR_0, xR_1, xR_2, xR_3, xR_4, yR_0, yR_1, yR_2, yR_3, yR_4⟩ := cf5 HB53.out.res
  go_wp2_with fail
  refine ret_at (v := .agg #[.int .i64 41, .string s46, .float .f64 0, .slice (some ⟨w48_.heap.size, 0, none⟩) 1 1, .complex .f64 0 0]) (fun U => Keeps [w.heap.size] w52_ U ∧ U.heap[w.heap.size]? = some (.cells #[.int .i64 41, .string s46, .float .f64 0, .slice (some ⟨w48_.heap.size, 0, none⟩) 1 1, .complex .f64 0 0] 50 (0, 0))) ⟨zg, (za HB53.out.res)⟩ (fun U hU => ?_) rfl (fun U hU => ?_)
  ·obtain ⟨-, x0, x1, x2, x3, x4, -⟩ := cf5 hU.2;exact qpb
  exact HB53.out.fin HH52.out hU.1 qg qg
 ·go_wp2_with fail
  refine zwb ?_;rintro r w54_ ⟨v, rfl, hn, hm, hk⟩;obtain ⟨k54, nm54, nu54, a54, l54, c54, re54, im54, rfl⟩ := hn.shape;have HB55 := zh (HB2.out.call hm hk);have HN54 := zh (HB2.out.node hn);clear hn;clear hk hm HB2
  go_wp2_with fail
  refine calls_at (fun V => Keeps [] w54_ V ∧ V.heap[w54_.heap.size]? = some (.cells #[.int .i64 k54, .string nm54, .float .f64 nu54, .slice a54 l54 c54, .complex .f64 re54 im54] 50 (0, 0))) ⟨zg, ja⟩ ?_;rintro w56_ ⟨hk, hr⟩;have HB57 := zh (HB55.out.kp hk);have HN57_n54 := zh (HN54.out.step hk jg);have HK56 := zh (Kd.row1 hr HB55.out.b HN57_n54.out);clear hr;clear hk HB55 HN54;clear HN57_n54;refine jrb ?_;rintro r w58_ ⟨rfl, hk⟩;have HB59 := zh (HB57.out.kp hk);have HK59 := zh (HK56.out.step hk jg);clear hk HB57 HK56;have HH58 : Hid (Nd (w.heap.size + 1) _ w58_ (.agg #[.int .i64 44, .string ⟨#[]⟩, .float .f64 0, .slice (some ⟨w54_.heap.size, 0, none⟩) 1 1, .complex .f64 0 0])) := zh (HK59.out.mk zi);clear HK59;obtain ⟨l_R, xR_0, xR_1, xR_2, xR_3, xR_4, yR_0, yR_1, yR_2, yR_3, yR_4⟩ := cf5 HB59.out.res
  go_wp2_with fail
  refine ret_at (v := .agg #[.int .i64 44, .string ⟨#[]⟩, .float .f64 0, .slice (some ⟨w54_.heap.size, 0, none⟩) 1 1, .complex .f64 0 0]) (fun U => Keeps [w.heap.size] w58_ U ∧ U.heap[w.heap.size]? = some (.cells #[.int .i64 44, .string ⟨#[]⟩, .float .f64 0, .slice (some ⟨w54_.heap.size, 0, none⟩) 1 1, .complex .f64 0 0] 50 (0, 0))) ⟨zg, (za HB59.out.res)⟩ (fun U hU => ?_) rfl (fun U hU => ?_)
  ·obtain ⟨-, x0, x1, x2, x3, x4, -⟩ := cf5 hU.2;exact qpb
  exact HB59.out.fin HH58.out hU.1 qg qg
 ·go_wp2_with fail
  refine zwb ?_;rintro r w60_ ⟨v, rfl, hn, hm, hk⟩;obtain ⟨k60, nm60, nu60, a60, l60, c60, re60, im60, rfl⟩ := hn.shape;have HB61 := zh (HB2.out.call hm hk);have HN60 := zh (HB2.out.node hn);clear hn;clear hk hm HB2
  go_wp2_with fail
  refine calls_at (fun V => Keeps [] w60_ V ∧ V.heap[w60_.heap.size]? = some (.cells #[.int .i64 k60, .string nm60, .float .f64 nu60, .slice a60 l60 c60, .complex .f64 re60 im60] 50 (0, 0))) ⟨zg, ja⟩ ?_;rintro w62_ ⟨hk, hr⟩;have HB63 := zh (HB61.out.kp hk);have HN63_n60 := zh (HN60.out.step hk jg);have HK62 := zh (Kd.row1 hr HB61.out.b HN63_n60.out);clear hr;clear hk HB61 HN60;clear HN63_n60;refine jrb ?_;rintro r w64_ ⟨rfl, hk⟩;have HB65 := zh (HB63.out.kp hk);have HK65 := zh (HK62.out.step hk jg);clear hk HB63 HK62;have HH64 : Hid (Nd (w.heap.size + 1) _ w64_ (.agg #[.int .i64 44, .string ⟨#[]⟩, .float .f64 0, .slice (some ⟨w60_.heap.size, 0, none⟩) 1 1, .complex .f64 0 0])) := zh (HK65.out.mk zi);clear HK65;obtain ⟨l_R, xR_0, xR_1, xR_2, xR_3, xR_4, yR_0, yR_1, yR_2, yR_3, yR_4⟩ := cf5 HB65.out.res
  go_wp2_with fail
  refine ret_at (v := .agg #[.int .i64 44, .string ⟨#[]⟩, .float .f64 0, .slice (some ⟨w60_.heap.size, 0, none⟩) 1 1, .complex .f64 0 0]) (fun U => Keeps [w.heap.size] w64_ U ∧ U.heap[w.heap.size]? = some (.cells #[.int .i64 44, .string ⟨#[]⟩, .float .f64 0, .slice (some ⟨w60_.heap.size, 0, none⟩) 1 1, .complex .f64 0 0] 50 (0, 0))) ⟨zg, (za HB65.out.res)⟩ (fun U hU => ?_) rfl (fun U hU => ?_)
  ·obtain ⟨-, x0, x1, x2, x3, x4, -⟩ := cf5 hU.2;exact qpb
  exact HB65.out.fin HH64.out hU.1 qg qg
 go_wp2_with fail
 refine zwb ?_;rintro r w66_ ⟨v, rfl, hn, hm, hk⟩;obtain ⟨k66, nm66, nu66, a66, l66, c66, re66, im66, rfl⟩ := hn.shape;have HB67 := zh (HB2.out.call hm hk);have HN66 := zh (HB2.out.node hn);clear hn;clear hk hm HB2
 go_wp2_with fail
 refine calls_at (fun V => Keeps [] w66_ V ∧ V.heap[w66_.heap.size]? = some (.cells #[.int .i64 k66, .string nm66, .float .f64 nu66, .slice a66 l66 c66, .complex .f64 re66 im66] 50 (0, 0))) ⟨zg, ja⟩ ?_;rintro w68_ ⟨hk, hr⟩;have HB69 := zh (HB67.out.kp hk);have HN69_n66 := zh (HN66.out.step hk jg);have HK68 := zh (Kd.row1 hr HB67.out.b HN69_n66.out);clear hr;clear hk HB67 HN66;clear HN69_n66;refine jrb ?_;rintro r w70_ ⟨rfl, hk⟩;have HB71 := zh (HB69.out.kp hk);have HK71 := zh (HK68.out.step hk jg);clear hk HB69 HK68;have HH70 : Hid (Nd (w.heap.size + 1) _ w70_ (.agg #[.int .i64 44, .string ⟨#[]⟩, .float .f64 0, .slice (some ⟨w66_.heap.size, 0, none⟩) 1 1, .complex .f64 0 0])) := zh (HK71.out.mk zi);clear HK71;obtain ⟨l_R, xR_0, xR_1, xR_2, xR_3, xR_4, yR_0, yR_1, yR_2, yR_3, yR_4⟩ := cf5 HB71.out.res
 go_wp2_with fail
 refine ret_at (v := .agg #[.int .i64 44, .string ⟨#[]⟩, .float .f64 0, .slice (some ⟨w66_.heap.size, 0, none⟩) 1 1, .complex .f64 0 0]) (fun U => Keeps [w.heap.size] w70_ U ∧ U.heap[w.heap.size]? = some (.cells #[.int .i64 44, .string ⟨#[]⟩, .float .f64 0, .slice (some ⟨w66_.heap.size, 0, none⟩) 1 1, .complex .f64 0 0] 50 (0, 0))) ⟨zg, (za HB71.out.res)⟩ (fun U hU => ?_) rfl (fun U hU => ?_)
 ·obtain ⟨-, x0, x1, x2, x3, x4, -⟩ := cf5 hU.2;exact qpb
 exact HB71.out.fin HH70.out hU.1 qg qg
def ListI (s : ByteArray) (p : Nat) (w : World) (rec : Rec) (l' : List Node) (st' : PSt) (g : Nat) (v : Value) (wr : World) : Prop :=
 ∃ (l : List Node) (st : PSt) (T : Nat → Prop) (U : Nat), moreF s rec g l st = some (l', st') ∧ l.length + g ≤ 60 ∧ OwnL NodeE 50 5 wr w.heap.size T l v ∧
  (∀ x, T x → x < U) ∧ U ≤ wr.heap.size ∧ (∀ x, T x → w.heap.size ≤ x) ∧ ¬ T p ∧ PP s p st wr ∧ Keeps [p] w wr
theorem isF_any {s : ByteArray} {p : Nat} {st : PSt} {w : World} (h : PP s p st w) {x : ByteArray} {b : Bool} (hx : isF s st x = some b) : Calls Tryz.prog 64 #[.pointer (some ⟨p, 0, none⟩), .string x] w fun r w' => r = .returned (.bool b) ∧ Keeps [] w w' := by
 unfold isF at hx
 cases ht : nextF s st.pos false with
 | none => rw [ht] at hx; simp at hx
 | some t =>
  rw [ht] at hx;simp only [Option.bind_eq_bind, Option.bind_some, Option.some.injEq] at hx;subst hx;exact is_any h ht x
theorem list_false {s : ByteArray} {p : Nat} {pos : Nat} {opn : Int} {st1 st2 : PSt} {n : Node} {l' : List Node} {rec : Rec} {top : Bool} (hrec : ∀ st st' n, rec .expr st = some (n, st') → Hands s p st st' n 109) (h1 : rec .expr ⟨pos, opn, false⟩ = some (n, st1)) (hm : moreF s rec 50 [n] st1 = some (l', st2)) (w : World) (h : PP s p ⟨pos, opn, false⟩ w) : Calls Tryz.prog 224 #[.pointer (some ⟨p, 0, none⟩), .bool top] w fun r w' => ∃ v, r = .returned v ∧ KidsR w' (fun g => w.heap.size ≤ g) l' v ∧ PP s p ⟨st2.pos, st2.opn, false⟩ w' ∧ Keeps [p] w w' := by
 have hsub := hrec _ _ _ h1;have g_p := h.p;have g_0 : 14 < w.heap.size := Nat.lt_trans g_p (h_lt h.row);have HP0 := zh h; have HK0 := zh (Keeps.refl [p] w); have HS1 := zh hsub; have HRec := zh hrec; have HG := zh hm;clear h hsub hrec hm h1
 go_enter Tryz.func224, Tryz.ntmps224
 obtain ⟨l_p, xp_0, xp_1, xp_2, xp_3, xp_4, xp_5, yp_0, yp_1, yp_2, yp_3, yp_4, yp_5⟩ := cf6 HP0.out.row
 go_wp2_with fail
 refine calls_at (fun W => Keeps [p] w W ∧ W.heap[p]? = some (.cells #[.string s, .int .i64 pos, .int .i64 opn, .bool false, .int .i64 0, .complex .f64 0 0] 87 (0, 0))) ⟨zg, (qb HP0.out.row l_p)⟩ ?_;rintro w1 ⟨Kw1, cw1_p⟩;have HKw1 := zh (HK0.out.trans Kw1 jg);have HPw1 : Hid (PP s p ⟨pos, opn, false⟩ w1) := zh (HP0.out.upd Kw1 qcb cw1_p HP0.out.le HP0.out.ob);clear Kw1 cw1_p l_p xp_0 xp_1 xp_2 xp_3 xp_4 xp_5 yp_0 yp_1 yp_2 yp_3 yp_4 yp_5 HK0 HP0;refine (HS1.out _ HPw1.out).mono ?_;rintro r e2 ⟨v, rfl, hn, hp, hk⟩;have HKe2 := zh (HKw1.out.trans hk jg);have HPne2 := zh hp;have ne2 := zh hn.seg;have o_n : w.heap.size ≤ w1.heap.size := HKw1.out.size;have ns_n_p : ¬ (Seg w1.heap.size e2.heap.size) (p) := fun h => Nat.not_lt_of_le h.1 (h_lt HPw1.out.row)
 have up_n : ∀ g, (Seg w1.heap.size e2.heap.size) g → g < e2.heap.size := fun _ h => h.2
 have dn_n : ∀ g, (Seg w1.heap.size e2.heap.size) g → w.heap.size ≤ g := fun _ h => Nat.le_trans o_n h.1
 obtain ⟨nt, nm, na, nl, nc, nr, ni, rfl, -, -⟩ := hn.shape;clear hn hp;clear hk HKw1 HPw1;have l_p := h_lt HPne2.out.row
 go_wp2_with fail
 refine qtb ?_;rintro w3 ⟨Kw3, cw3_G⟩;have ⟨n_p_G, n_G_p⟩ := zne l_p;have o_G : w.heap.size ≤ e2.heap.size := HKe2.out.size;have g_G : 14 < e2.heap.size := Nat.lt_trans g_p l_p;have ns_n_G : ¬ (Seg w1.heap.size e2.heap.size) (e2.heap.size) := fun h => Nat.not_lt_of_le ((Nat.le_refl e2.heap.size)) (up_n _ h)
 have HKw3 := zh (HKe2.out.trans Kw3 jg);have HPw3 := zh (HPne2.out.keep Kw3);have nw3 := zh (ne2.out.kp Kw3 jg);have us_nw3 := Nat.le_trans (Nat.le_refl e2.heap.size) Kw3.size;have Rw3_G := zh cw3_G;clear Kw3 cw3_G l_p HKe2 HPne2 ne2;have hE1 : OwnL NodeE 50 5 w3 w.heap.size (fun x => (Seg w1.heap.size e2.heap.size) x ∨ x = e2.heap.size) [n] (.slice (some ⟨e2.heap.size, 0, none⟩) 1 1) := OwnL.one nodeL (c := [.int .i64 n.kind, .string nt, .float .f64 nm, .slice na nl nc, .complex .f64 nr ni]) Rw3_G.out o_G (.inr rfl) ⟨rfl, nw3.out⟩ fun g hg => ⟨.inl hg, fun h => ns_n_G (h ▸ hg)⟩
 have HE1 := zh hE1;clear hE1
 go_loopg [6] 50 (fun g v wr => ListI s p w rec l' st2 g v wr)
 case atStart => exact ⟨[n], st1, _, w3.heap.size, HG.out, by simp, HE1.out, fun x h => h.elim (fun h => Nat.lt_of_lt_of_le (up_n x h) us_nw3) fun h => by rw [h]; exact h_lt Rw3_G.out, Nat.le_refl _, fun x h => h.elim (dn_n x) fun h => by rw [h]; exact o_G, fun h => h.elim ns_n_p n_p_G, HPw3.out, HKw3.out⟩
 clear HG HE1;obtain ⟨l, st1, T, U, hG, hlen, hl, up_l, us_l, dn_l, ns_l_p, hp, hk⟩ := hrel;have HL1 := zh hl; have HPr := zh hp; have HKr := zh hk;clear hl hp hk
 cases gk with
 | zero => simp [moreF] at hG
 | succ f =>
  rw [moreF] at hG
  cases ho : takeF s st1 (bs [44]) with
  | none => rw [ho] at hG; simp at hG
  | some y =>
   obtain ⟨b, st2a⟩ := y;rw [ho] at hG;simp only [Option.bind_eq_bind, Option.bind_some] at hG;have HX : Hid (takeF s st1 ⟨#[44]⟩ = some (b, st2a)) := zh ho;clear ho
   cases b with
   | false =>
    simp only [Option.some.injEq, Prod.mk.injEq, Bool.false_eq_true, if_false] at hG;obtain ⟨rfl, rfl⟩ := hG;have l_p := h_lt HPr.out.row
    go_wp2_with fail
    clear l_p;refine (ok_any HPr.out).mono ?_;rintro r w' ⟨rfl, hw'⟩;rw [hw'];clear hw';have l_p := h_lt HPr.out.row
    go_wp2_with fail
    clear l_p;refine (take_any HPr.out HX.out).mono ?_;rintro r e51 ⟨rfl, hp, hk⟩;have HKe51 := zh (HKr.out.trans hk jg);have le51 := zh (OwnL.kp nodeL HL1.out hk jdb);have us_le51 := Nat.le_trans us_l hk.size;have HPne51 := zh hp;clear hp;clear hk HKr HL1 us_l HPr;obtain ⟨l_p, xp_0, xp_1, xp_2, xp_3, xp_4, xp_5, yp_0, yp_1, yp_2, yp_3, yp_4, yp_5⟩ := cf6 HPne51.out.row
    go_wp2_with fail
    refine ret_at (v := u6) (fun W => Keeps [p] e51 W ∧ W.heap[p]? = some (.cells #[.string s, .int .i64 st2a.pos, .int .i64 st2a.opn, .bool false, .int .i64 0, .complex .f64 0 0] 87 (0, 0))) ⟨zg, (qb HPne51.out.row l_p)⟩ (fun w52 hW => ?_) rfl (fun w52 hW => ?_)
    ·obtain ⟨Kw52, cw52_p⟩ := hW;exact jnb
    obtain ⟨Kw52, cw52_p⟩ := hW;have HKw52 := zh (HKe51.out.trans Kw52 jg);have HPw52 : Hid (PP s p ⟨st2a.pos, st2a.opn, false⟩ w52) := zh (HPne51.out.upd Kw52 qcb cw52_p HPne51.out.le HPne51.out.ob);have lw52 := zh (OwnL.kp nodeL le51.out Kw52 jdb);have us_lw52 := Nat.le_trans us_le51 Kw52.size;clear Kw52 cw52_p l_p xp_0 xp_1 xp_2 xp_3 xp_4 xp_5 yp_0 yp_1 yp_2 yp_3 yp_4 yp_5 HKe51 HPne51 le51 us_le51;exact ⟨_, rfl, (kids_of_own lw52.out).to dn_l, HPw52.out, HKw52.out⟩
   | true =>
    simp at hG
def Lists (s : ByteArray) (p : Nat) (st st' : PSt) (l : List Node) (f : FuncId) (args : List Value) : Prop :=
 ∀ w, PP s p st w → Calls Tryz.prog f (.pointer (some ⟨p, 0, none⟩) :: args).toArray w fun r w' => ∃ v, r = .returned v ∧ KidsR w' (fun g => w.heap.size ≤ g) l v ∧ PP s p st' w' ∧ Keeps [p] w w'
theorem list_any {s : ByteArray} {p : Nat} {st st' : PSt} {l : List Node} {rec : Rec} {top : Bool} (hrec : ∀ st st' n, rec .expr st = some (n, st') → Hands s p st st' n 109) (hx : listF s rec top st = some (l, st')) : Lists s p st st' l 224 [.bool top] := by
 intro w h;obtain ⟨pos, opn, ng⟩ := st;simp only [listF] at hx
 cases ng
 rotate_left
 ·cases hx
 simp only [Bool.false_eq_true, if_false, Bool.false_and] at hx
 cases h1 : rec .expr ⟨pos, opn, false⟩ with
 | none => rw [h1] at hx; simp at hx
 | some y =>
  rw [h1] at hx;obtain ⟨n, st1⟩ := y;simp only [Option.bind_eq_bind, Option.bind_some] at hx
  cases h2 : moreF s rec 50 [n] st1 with
  | none => rw [h2] at hx; simp at hx
  | some y =>
   rw [h2] at hx;obtain ⟨l2, st2⟩ := y;simp only [Option.bind_some, Option.some.injEq, Prod.mk.injEq] at hx;obtain ⟨rfl, rfl⟩ := hx;exact list_false hrec h1 h2 w h
theorem inside_any {s : ByteArray} {p : Nat} {st st1 st2 : PSt} {l : List Node} {x : ByteArray} (hl : Lists s p st st1 l 224 [.bool false]) (hw : wantF s st1 x = some st2) : Lists s p st st2 l 189 [.string x] := by
 intro w h;have g_p := h.p;have HP0 := zh h; have HK0 := zh (Keeps.refl [p] w); have HS1 := zh hl; have HX := zh hw;clear h hl hw
 go_enter Tryz.func189, Tryz.ntmps189
 have l_p := h_lt HP0.out.row
 go_wp2_with fail
 clear l_p;refine (HS1.out _ HP0.out).mono ?_;rintro r e1 ⟨v, rfl, hn, hp, hk⟩;have HKe1 := zh (HK0.out.trans hk jg);have HPne1 := zh hp;have le1 := zh hn.seg;have o_l : w.heap.size ≤ w.heap.size := Nat.le_refl _;have ns_l_p : ¬ (Seg w.heap.size e1.heap.size) (p) := fun h => Nat.not_lt_of_le h.1 (h_lt HP0.out.row)
 have up_l : ∀ g, (Seg w.heap.size e1.heap.size) g → g < e1.heap.size := fun _ h => h.2
 have dn_l : ∀ g, (Seg w.heap.size e1.heap.size) g → w.heap.size ≤ g := fun _ h => Nat.le_trans o_l h.1
 obtain ⟨la, ll, lc, rfl⟩ := hn.slice;clear hn hp;clear hk HK0 HP0;have l_p := h_lt HPne1.out.row
 go_wp2_with fail
 clear l_p;refine (want_any HPne1.out HX.out).mono ?_;rintro r e2 ⟨rfl, hp, hk⟩;have HKe2 := zh (HKe1.out.trans hk jg);have le2 := zh (le1.out.kp hk jdb);have us_le2 := Nat.le_trans (Nat.le_refl e1.heap.size) hk.size;have HPne2 := zh hp;clear hp;clear hk HKe1 le1 HPne1;have l_p := h_lt HPne2.out.row
 go_wp2_with fail
 refine ret_at (v := .slice la ll lc) (fun W => Keeps [] e2 W) zg (fun w3 hW => ?_) rfl (fun w3 hW => ?_)
 ·have Kw3 : Keeps [] e2 w3 := hW;exact jnb
 have Kw3 : Keeps [] e2 w3 := hW;have HKw3 := zh (HKe2.out.trans Kw3 jg);have HPw3 := zh (HPne2.out.keep Kw3);have lw3 := zh (le2.out.kp Kw3 jg);have us_lw3 := Nat.le_trans us_le2 Kw3.size;clear Kw3 l_p HKe2 HPne2 le2 us_le2;exact ⟨_, rfl, lw3.out.to dn_l, HPw3.out, HKw3.out⟩
theorem operand_num {s : ByteArray} {p : Nat} {st : PSt} {tx : ByteArray} {nm fr te : Nat} (ht : nextF s st.pos true = some ⟨2, tx, nm, fr, te⟩)  : Hands s p st ⟨te, st.opn, st.ng⟩ (.mk 1 ⟨#[]⟩ nm [] (placeOf s fr).1 (placeOf s fr).2) 294 := by
 intro w h;have g_p := h.p;obtain ⟨le1, le2, -⟩ := nextF_le ht h.le;simp only at le1 le2;have le3 := Nat.le_trans le1 le2;have HP0 := zh h; have HK0 := zh (Keeps.refl [p] w); have HT := zh ht;clear h ht le1
 go_enter Tryz.func294, Tryz.ntmps294
 have l_p := h_lt HP0.out.row
 go_wp2_with fail
 refine qrb ?_;rintro w1 ⟨Kw1, cw1_R⟩;have ⟨n_p_R, n_R_p⟩ := zne l_p;have o_R : w.heap.size ≤ w.heap.size := Nat.le_refl _;have g_R : 14 < w.heap.size := Nat.lt_trans g_p l_p;have HKw1 := zh (HK0.out.trans Kw1 jg);have HPw1 := zh (HP0.out.keep Kw1);have Rw1_R := zh cw1_R;clear Kw1 cw1_R l_p HK0 HP0;refine (see_any HPw1.out HT.out).mono ?_;rintro r e2 ⟨rfl, hk⟩;have Re2_R := zh (hk.at Rw1_R.out jg);have HKe2 := zh (HKw1.out.trans hk jg);have HPe2 := zh (HPw1.out.keep hk);clear hk Rw1_R HKw1 HPw1;have l_p := h_lt HPe2.out.row;have l_R := h_lt Re2_R.out
 go_wp2_with fail
 refine calls_at (fun W => Keeps [] e2 W ∧ W.heap[e2.heap.size]? = some (.cells #[.int .i64 2, .string tx, .float .f64 nm, .int .i64 fr, .int .i64 te] 90 (0, 0))) ⟨zg, zb⟩ ?_;rintro w3 ⟨Kw3, cw3_T⟩;have ⟨n_p_T, n_T_p⟩ := zne l_p;have ⟨n_R_T, n_T_R⟩ := zne l_R;have o_T : w.heap.size ≤ e2.heap.size := HKe2.out.size;have g_T : 14 < e2.heap.size := Nat.lt_trans g_p l_p;have Rw3_R := zh (Kw3.at Re2_R.out jg);have HKw3 := zh (HKe2.out.trans Kw3 jg);have HPw3 := zh (HPe2.out.keep Kw3);have Rw3_T := zh cw3_T;clear Kw3 cw3_T l_p l_R Re2_R HKe2 HPe2;refine (ok_any HPw3.out).mono ?_;rintro r w' ⟨rfl, hw'⟩;rw [hw'];clear hw';have l_p := h_lt HPw3.out.row;have l_R := h_lt Rw3_R.out;obtain ⟨l_T, xT_0, xT_1, xT_2, xT_3, xT_4, yT_0, yT_1, yT_2, yT_3, yT_4⟩ := cf5 Rw3_T.out
 go_wp2_with fail
 clear l_p l_R l_T xT_0 xT_1 xT_2 xT_3 xT_4 yT_0 yT_1 yT_2 yT_3 yT_4;refine (place_tok HPw3.out ⟨2, tx, nm, fr, te⟩ le3).mono ?_;rintro r e4 ⟨rfl, hk⟩;have Re4_R := zh (hk.at Rw3_R.out jg);have Re4_T := zh (hk.at Rw3_T.out jg);have HKe4 := zh (HKw3.out.trans hk jg);have HPe4 := zh (HPw3.out.keep hk);clear hk Rw3_R Rw3_T HKw3 HPw3;obtain ⟨l_p, xp_0, xp_1, xp_2, xp_3, xp_4, xp_5, yp_0, yp_1, yp_2, yp_3, yp_4, yp_5⟩ := cf6 HPe4.out.row;obtain ⟨l_R, xR_0, xR_1, xR_2, xR_3, xR_4, yR_0, yR_1, yR_2, yR_3, yR_4⟩ := cf5 Re4_R.out;obtain ⟨l_T, xT_0, xT_1, xT_2, xT_3, xT_4, yT_0, yT_1, yT_2, yT_3, yT_4⟩ := cf5 Re4_T.out
 go_wp2_with fail
 refine ret_at (v := .agg #[.int .i64 1, .string ⟨#[]⟩, .float .f64 nm, .slice none 0 0, .complex .f64 (placeOf s fr).1 (placeOf s fr).2]) (fun W => Keeps [p, w.heap.size] e4 W ∧ W.heap[p]? = some (.cells #[.string s, .int .i64 te, .int .i64 st.opn, .bool st.ng, .int .i64 0, .complex .f64 0 0] 87 (0, 0)) ∧ W.heap[w.heap.size]? = some (.cells #[.int .i64 1, .string ⟨#[]⟩, .float .f64 nm, .slice none 0 0, .complex .f64 (placeOf s fr).1 (placeOf s fr).2] 50 (0, 0))) ⟨zg, (zc HPe4.out.row Re4_R.out n_p_R n_R_p l_p l_R), (zc HPe4.out.row Re4_R.out n_p_R n_R_p l_p l_R)⟩ (fun w5 hW => ?_) rfl (fun w5 hW => ?_)
 ·obtain ⟨Kw5, cw5_p, cw5_R⟩ := hW;have q0 := cell_of_heap cw5_R 0;have q1 := cell_of_heap cw5_R 1;have q2 := cell_of_heap cw5_R 2;have q3 := cell_of_heap cw5_R 3;have q4 := cell_of_heap cw5_R 4;simp at q0 q1 q2 q3 q4;exact jsb
 obtain ⟨Kw5, cw5_p, cw5_R⟩ := hW;have Rw5_T := zh (Kw5.at Re4_T.out (by simp [n_T_p, n_T_R]));have HKw5 := zh (HKe4.out.trans Kw5 zp);have HPw5 : Hid (PP s p ⟨te, st.opn, st.ng⟩ w5) := zh (HPe4.out.upd Kw5 (by simp [g_p, g_R]) cw5_p zv HPe4.out.ob);have Rw5_R := zh cw5_R;clear Kw5 cw5_p cw5_R l_p xp_0 xp_1 xp_2 xp_3 xp_4 xp_5 yp_0 yp_1 yp_2 yp_3 yp_4 yp_5 l_R xR_0 xR_1 xR_2 xR_3 xR_4 yR_0 yR_1 yR_2 yR_3 yR_4 l_T xT_0 xT_1 xT_2 xT_3 xT_4 yT_0 yT_1 yT_2 yT_3 yT_4 Re4_T HKe4 HPe4 Re4_R;exact ⟨_, rfl, .mk .nil, HPw5.out, HKw5.out⟩
theorem operand_var {s : ByteArray} {p : Nat} {st : PSt} {tx : ByteArray} {nm fr te : Nat} (ht : nextF s st.pos true = some ⟨5, tx, nm, fr, te⟩) {st2 : PSt} (hx : takeF s ⟨te, st.opn, st.ng⟩ ⟨#[91]⟩ = some (false, st2)) : Hands s p st st2 (.mk 4 tx 0 [] (placeOf s fr).1 (placeOf s fr).2) 294 := by
 intro w h;have g_p := h.p;obtain ⟨le1, le2, -⟩ := nextF_le ht h.le;simp only at le1 le2;have le3 := Nat.le_trans le1 le2;have HP0 := zh h; have HK0 := zh (Keeps.refl [p] w); have HT := zh ht; have HX := zh hx;clear h ht le1 hx
 go_enter Tryz.func294, Tryz.ntmps294
 have l_p := h_lt HP0.out.row
 go_wp2_with fail
 refine qrb ?_;rintro w1 ⟨Kw1, cw1_R⟩;have ⟨n_p_R, n_R_p⟩ := zne l_p;have o_R : w.heap.size ≤ w.heap.size := Nat.le_refl _;have g_R : 14 < w.heap.size := Nat.lt_trans g_p l_p;have HKw1 := zh (HK0.out.trans Kw1 jg);have HPw1 := zh (HP0.out.keep Kw1);have Rw1_R := zh cw1_R;clear Kw1 cw1_R l_p HK0 HP0;refine (see_any HPw1.out HT.out).mono ?_;rintro r e2 ⟨rfl, hk⟩;have Re2_R := zh (hk.at Rw1_R.out jg);have HKe2 := zh (HKw1.out.trans hk jg);have HPe2 := zh (HPw1.out.keep hk);clear hk Rw1_R HKw1 HPw1;have l_p := h_lt HPe2.out.row;have l_R := h_lt Re2_R.out
 go_wp2_with fail
 refine jwb ?_;rintro w3 ⟨Kw3, cw3_T⟩;have ⟨n_p_T, n_T_p⟩ := zne l_p;have ⟨n_R_T, n_T_R⟩ := zne l_R;have o_T : w.heap.size ≤ e2.heap.size := HKe2.out.size;have g_T : 14 < e2.heap.size := Nat.lt_trans g_p l_p;have Rw3_R := zh (Kw3.at Re2_R.out jg);have HKw3 := zh (HKe2.out.trans Kw3 jg);have HPw3 := zh (HPe2.out.keep Kw3);have Rw3_T := zh cw3_T;clear Kw3 cw3_T l_p l_R Re2_R HKe2 HPe2;refine (ok_any HPw3.out).mono ?_;rintro r w' ⟨rfl, hw'⟩;rw [hw'];clear hw';have l_p := h_lt HPw3.out.row;have l_R := h_lt Rw3_R.out;obtain ⟨l_T, xT_0, xT_1, xT_2, xT_3, xT_4, yT_0, yT_1, yT_2, yT_3, yT_4⟩ := cf5 Rw3_T.out
 go_wp2_with fail
 clear l_p l_R l_T xT_0 xT_1 xT_2 xT_3 xT_4 yT_0 yT_1 yT_2 yT_3 yT_4;refine (place_tok HPw3.out ⟨5, tx, nm, fr, te⟩ le3).mono ?_;rintro r e4 ⟨rfl, hk⟩;have Re4_R := zh (hk.at Rw3_R.out jg);have Re4_T := zh (hk.at Rw3_T.out jg);have HKe4 := zh (HKw3.out.trans hk jg);have HPe4 := zh (HPw3.out.keep hk);clear hk Rw3_R Rw3_T HKw3 HPw3;obtain ⟨l_p, xp_0, xp_1, xp_2, xp_3, xp_4, xp_5, yp_0, yp_1, yp_2, yp_3, yp_4, yp_5⟩ := cf6 HPe4.out.row;have l_R := h_lt Re4_R.out;obtain ⟨l_T, xT_0, xT_1, xT_2, xT_3, xT_4, yT_0, yT_1, yT_2, yT_3, yT_4⟩ := cf5 Re4_T.out
 go_wp2_with fail
 refine qwb ?_;rintro w5 ⟨Kw5, cw5_p⟩;have Rw5_R := zh (Kw5.at Re4_R.out jk);have Rw5_T := zh (Kw5.at Re4_T.out jl);have HKw5 := zh (HKe4.out.trans Kw5 jg);have HPw5 : Hid (PP s p ⟨te, st.opn, st.ng⟩ w5) := zh (HPe4.out.upd Kw5 qcb cw5_p zv HPe4.out.ob);clear Kw5 cw5_p l_p xp_0 xp_1 xp_2 xp_3 xp_4 xp_5 yp_0 yp_1 yp_2 yp_3 yp_4 yp_5 l_R l_T xT_0 xT_1 xT_2 xT_3 xT_4 yT_0 yT_1 yT_2 yT_3 yT_4 Re4_R Re4_T HKe4 HPe4;refine (take_any HPw5.out HX.out).mono ?_;rintro r e6 ⟨rfl, hp, hk⟩;have Re6_R := zh (hk.at Rw5_R.out jk);have Re6_T := zh (hk.at Rw5_T.out jl);have HKe6 := zh (HKw5.out.trans hk jg);have HPne6 := zh hp;clear hp;clear hk Rw5_R Rw5_T HKw5 HPw5;have l_p := h_lt HPne6.out.row;obtain ⟨l_R, xR_0, xR_1, xR_2, xR_3, xR_4, yR_0, yR_1, yR_2, yR_3, yR_4⟩ := cf5 Re6_R.out;obtain ⟨l_T, xT_0, xT_1, xT_2, xT_3, xT_4, yT_0, yT_1, yT_2, yT_3, yT_4⟩ := cf5 Re6_T.out
 go_wp2_with fail
 refine ret_at (v := .agg #[.int .i64 4, .string tx, .float .f64 0, .slice none 0 0, .complex .f64 (placeOf s fr).1 (placeOf s fr).2]) (fun W => Keeps [w.heap.size] e6 W ∧ W.heap[w.heap.size]? = some (.cells #[.int .i64 4, .string tx, .float .f64 0, .slice none 0 0, .complex .f64 (placeOf s fr).1 (placeOf s fr).2] 50 (0, 0))) ⟨zg, (qb Re6_R.out l_R)⟩ (fun w7 hW => ?_) rfl (fun w7 hW => ?_)
 ·obtain ⟨Kw7, cw7_R⟩ := hW;exact jpd
 obtain ⟨Kw7, cw7_R⟩ := hW;have Rw7_T := zh (Kw7.at Re6_T.out qx);have HKw7 := zh (HKe6.out.trans Kw7 zp);have HPw7 := zh (HPne6.out.keepN Kw7 jr zt);have Rw7_R := zh cw7_R;clear Kw7 cw7_R l_p l_R xR_0 xR_1 xR_2 xR_3 xR_4 yR_0 yR_1 yR_2 yR_3 yR_4 l_T xT_0 xT_1 xT_2 xT_3 xT_4 yT_0 yT_1 yT_2 yT_3 yT_4 Re6_T HKe6 HPne6 Re6_R;exact ⟨_, rfl, .mk .nil, HPw7.out, HKw7.out⟩
end Go.Proofs.YtkfillfkbhbbjaaGreatDoor
