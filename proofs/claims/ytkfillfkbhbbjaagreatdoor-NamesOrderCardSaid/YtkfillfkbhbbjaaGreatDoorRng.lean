/- NamC, NamD, NamE, Rng. -/
import Derived.Test.YtkfillfkbhbbjaaGreatDoorNamB
import Derived.Maps.RangeRun
set_option maxRecDepth 100000
set_option maxHeartbeats 4000000
set_option linter.unusedSimpArgs false
set_option linter.unusedVariables false
namespace Go.Proofs.YtkfillfkbhbbjaaGreatDoor
open Go.RowKit
theorem named_y {K : CKey} (hK : CFix K) {T : Nat → Prop} {ua : Option Addr} {uc : Nat} {st : NS} {w : World} (h : CK K T ua uc st w) (kd : Int) (tx : ByteArray) (fm : Nat) (na : Option Addr) (nl nc re im : Nat) {v : Int} (hv : v = (flook K.g tx : Nat)) (hv0 : 0 < v) : Calls Tryz.prog 74 #[.pointer (some ⟨K.c, 0, none⟩), .agg #[.int .i64 kd, .string tx, .float .f64 fm, .slice na nl nc, .complex .f64 re im]] w fun r w' => ∃ T' ua' uc', r = .returned (.tuple #[]) ∧ CK K T' ua' uc' (faultF st re im 28) w' ∧ CStep K T T' w w' := by
 skip
 have HC0 := zh h; have HS0 := zh (CStep.refl K T w); have HV := zh hv;clear h hv
 go_enter Tryz.func74, Tryz.ntmps74
 obtain ⟨l_c, l_mf, l_ms, l_mn⟩ := HC0.out.lt
 go_upto_region 1 with fail
 refine qic ?_;rintro w1 ⟨Kw1, cw1_B⟩;have ⟨n_c_B, n_B_c⟩ := zne l_c;have ⟨n_mf_B, n_B_mf⟩ := zne l_mf;have ⟨n_ms_B, n_B_ms⟩ := zne l_ms;have ⟨n_mn_B, n_B_mn⟩ := zne l_mn;have o_B : w.heap.size ≤ w.heap.size := Nat.le_refl _;have off_B : Off K T (w.heap.size) := off_new HC0.out (Nat.le_refl _);have o0_B : K.w0.heap.size ≤ w.heap.size := Nat.le_trans HC0.out.keep.size (Nat.le_refl _);have HCw1 := zh (HC0.out.kp0 Kw1);have HSw1 := zh (HS0.out.loc Kw1 jg);have Rw1_B := zh cw1_B;clear Kw1 cw1_B l_c l_mf l_ms l_mn HC0 HS0;obtain ⟨l_c, xc_0, xc_1, xc_2, xc_3, xc_4, xc_5, xc_6, xc_7, xc_8, xc_9, xc_10, yc_0, yc_1, yc_2, yc_3, yc_4, yc_5, yc_6, yc_7, yc_8, yc_9, yc_10⟩ := cf11 HCw1.out.row;obtain ⟨-, l_mf, l_ms, l_mn⟩ := HCw1.out.lt;obtain ⟨l_B, xB_0, xB_1, xB_2, xB_3, xB_4, yB_0, yB_1, yB_2, yB_3, yB_4⟩ := cf5 Rw1_B.out;have hlk := HCw1.out.flook' tx HV.out
 go_cut [11] (fun s11 W => s11 = .bool true ∧ Keeps [] w1 W)
 case first =>
  exact jod
 obtain ⟨rfl, hk⟩ := hcut;generalize wc = w2 at *
 have Rw2_B := zh (hk.at Rw1_B.out jg);have HCw2 := zh (HCw1.out.kp0 hk);have HSw2 := zh (HSw1.out.loc hk jg);clear hk Rw1_B HCw1 HSw1 l_c xc_0 xc_1 xc_2 xc_3 xc_4 xc_5 xc_6 xc_7 xc_8 xc_9 xc_10 yc_0 yc_1 yc_2 yc_3 yc_4 yc_5 yc_6 yc_7 yc_8 yc_9 yc_10 l_B xB_0 xB_1 xB_2 xB_3 xB_4 yB_0 yB_1 yB_2 yB_3 yB_4 l_mf l_ms l_mn;obtain ⟨l_c, l_mf, l_ms, l_mn⟩ := HCw2.out.lt;obtain ⟨l_B, xB_0, xB_1, xB_2, xB_3, xB_4, yB_0, yB_1, yB_2, yB_3, yB_4⟩ := cf5 Rw2_B.out
 go_wp2_with fail
 clear l_c l_B xB_0 xB_1 xB_2 xB_3 xB_4 yB_0 yB_1 yB_2 yB_3 yB_4 l_mf l_ms l_mn;refine (fault_any hK HCw2.out re im 28).mono ?_;rintro r e3 ⟨T3, ua3, uc3, rfl, hc, hs⟩;have off2_B := hs.off (h_lt Rw2_B.out) off_B;have Re3_B := zh (hs.at Rw2_B.out off_B);have off_B' := off2_B;have HCe3 := zh hc;have HSe3 := zh (HSw2.out.trans hs);clear Rw2_B off_B HCw2 HSw2 hc hs;have off_B := off_B';clear off_B' off2_B;obtain ⟨l_c, l_mf, l_ms, l_mn⟩ := HCe3.out.lt;have l_B := h_lt Re3_B.out
 go_wp2_with fail
 refine end_at (v := .tuple #[]) (fun W => Keeps [] e3 W) zg (fun w4 hW => ?_) rfl (fun w4 hW => ?_)
 ·have Kw4 : Keeps [] e3 w4 := hW;exact jnb
 have Kw4 : Keeps [] e3 w4 := hW;have Rw4_B := zh (Kw4.at Re3_B.out jg);have HCw4 := zh (HCe3.out.kp0 Kw4);have HSw4 := zh (HSe3.out.loc Kw4 jg);clear Kw4 l_c l_B l_mf l_ms l_mn Re3_B HCe3 HSe3;exact jjc
theorem named_n {K : CKey} (hK : CFix K) {T : Nat → Prop} {ua : Option Addr} {uc : Nat} {st : NS} {w : World} (h : CK K T ua uc st w) (kd : Int) (tx : ByteArray) (fm : Nat) (na : Option Addr) (nl nc re im : Nat) {v : Int} (hv : v = (flook K.g tx : Nat)) (hv0 : v = 0) : Calls Tryz.prog 74 #[.pointer (some ⟨K.c, 0, none⟩), .agg #[.int .i64 kd, .string tx, .float .f64 fm, .slice na nl nc, .complex .f64 re im]] w fun r w' => ∃ T' ua' uc', r = .returned (.tuple #[]) ∧ CK K T' ua' uc' (st) w' ∧ CStep K T T' w w' := by
 subst hv0;have HC0 := zh h; have HS0 := zh (CStep.refl K T w); have HV := zh hv;clear h hv
 go_enter Tryz.func74, Tryz.ntmps74
 obtain ⟨l_c, l_mf, l_ms, l_mn⟩ := HC0.out.lt
 go_upto_region 1 with fail
 refine qic ?_;rintro w1 ⟨Kw1, cw1_B⟩;have ⟨n_c_B, n_B_c⟩ := zne l_c;have ⟨n_mf_B, n_B_mf⟩ := zne l_mf;have ⟨n_ms_B, n_B_ms⟩ := zne l_ms;have ⟨n_mn_B, n_B_mn⟩ := zne l_mn;have o_B : w.heap.size ≤ w.heap.size := Nat.le_refl _;have off_B : Off K T (w.heap.size) := off_new HC0.out (Nat.le_refl _);have o0_B : K.w0.heap.size ≤ w.heap.size := Nat.le_trans HC0.out.keep.size (Nat.le_refl _);have HCw1 := zh (HC0.out.kp0 Kw1);have HSw1 := zh (HS0.out.loc Kw1 jg);have Rw1_B := zh cw1_B;clear Kw1 cw1_B l_c l_mf l_ms l_mn HC0 HS0;obtain ⟨l_c, xc_0, xc_1, xc_2, xc_3, xc_4, xc_5, xc_6, xc_7, xc_8, xc_9, xc_10, yc_0, yc_1, yc_2, yc_3, yc_4, yc_5, yc_6, yc_7, yc_8, yc_9, yc_10⟩ := cf11 HCw1.out.row;obtain ⟨-, l_mf, l_ms, l_mn⟩ := HCw1.out.lt;obtain ⟨l_B, xB_0, xB_1, xB_2, xB_3, xB_4, yB_0, yB_1, yB_2, yB_3, yB_4⟩ := cf5 Rw1_B.out;have hlk := HCw1.out.flook' tx HV.out
 go_cut [11] (fun s11 W => s11 = .bool false ∧ Keeps [] w1 W)
 case first =>
  exact jod
 obtain ⟨rfl, hk⟩ := hcut;generalize wc = w2 at *
 have Rw2_B := zh (hk.at Rw1_B.out jg);have HCw2 := zh (HCw1.out.kp0 hk);have HSw2 := zh (HSw1.out.loc hk jg);clear hk Rw1_B HCw1 HSw1 l_c xc_0 xc_1 xc_2 xc_3 xc_4 xc_5 xc_6 xc_7 xc_8 xc_9 xc_10 yc_0 yc_1 yc_2 yc_3 yc_4 yc_5 yc_6 yc_7 yc_8 yc_9 yc_10 l_B xB_0 xB_1 xB_2 xB_3 xB_4 yB_0 yB_1 yB_2 yB_3 yB_4 l_mf l_ms l_mn;obtain ⟨l_c, l_mf, l_ms, l_mn⟩ := HCw2.out.lt;have l_B := h_lt Rw2_B.out
 go_wp2_with fail
 refine end_at (v := .tuple #[]) (fun W => Keeps [] w2 W) zg (fun w3 hW => ?_) rfl (fun w3 hW => ?_)
 ·have Kw3 : Keeps [] w2 w3 := hW;exact jnb
 have Kw3 : Keeps [] w2 w3 := hW;have Rw3_B := zh (Kw3.at Rw2_B.out jg);have HCw3 := zh (HCw2.out.kp0 Kw3);have HSw3 := zh (HSw2.out.loc Kw3 jg);clear Kw3 l_c l_B l_mf l_ms l_mn Rw2_B HCw2 HSw2;exact qjc
theorem named_any {K : CKey} (hK : CFix K) {T : Nat → Prop} {ua : Option Addr} {uc : Nat} {st : NS} {w : World} (h : CK K T ua uc st w) {S : Nat → Prop} {W : World} {n : Node} {v : Value} (hn : NodeR W S n v) : Calls Tryz.prog 74 #[.pointer (some ⟨K.c, 0, none⟩), v] w fun r w' => ∃ T' ua' uc', r = .returned (.tuple #[]) ∧ CK K T' ua' uc' (namedF K.g st n) w' ∧ CStep K T T' w w' := by
 cases hn with
 | mk hk =>
  obtain ⟨a, l, c, rfl⟩ := hk.slice;unfold namedF
  split
  ·rename_i h0;simp only [Node.name] at h0;exact named_y hK h _ _ _ _ _ _ _ _ rfl qg
  rename_i h0;simp only [Node.name] at h0;exact named_n hK h _ _ _ _ _ _ _ _ rfl qg
def RootI (K : CKey) (T : Nat → Prop) (ua : Option Addr) (uc : Nat) (st : NS) (r : Thing) (w : World) (B R : Nat) (g : Nat) (W : World) : Prop :=
 ∃ t, rootF st.same g t = some r ∧ CK K T ua uc st W ∧ Keeps [] w W ∧ W.heap[B]? = some (.cells #[.int .i64 t.1, .string t.2] 101 (0, 0)) ∧ W.heap[R]? = some (.cells #[.int .i64 0, .string ⟨#[]⟩] 101 (0, 0))
theorem root_any {K : CKey} {T : Nat → Prop} {ua : Option Addr} {uc : Nat} {st : NS} {w : World} (h : CK K T ua uc st w) {t r : Thing} {fu : Nat} (hx : rootF st.same fu t = some r) : Calls Tryz.prog 45 #[.pointer (some ⟨K.c, 0, none⟩), .agg #[.int .i64 t.1, .string t.2]] w fun q w' => q = .returned (.agg #[.int .i64 r.1, .string r.2]) ∧ Keeps [] w w' := by
 have HC0 := zh h; have HS0 := zh (CStep.refl K T w); have HK0 := zh (Keeps.refl [] w); have HX := zh hx;clear h hx
 go_enter Tryz.func45, Tryz.ntmps45
 obtain ⟨l_c, l_mf, l_ms, l_mn⟩ := HC0.out.lt;have l_mf_1 : K.mf < w.heap.size + 1 := Nat.lt_add_right 1 l_mf;have l_ms_1 : K.ms < w.heap.size + 1 := Nat.lt_add_right 1 l_ms;have l_mn_1 : K.mn < w.heap.size + 1 := Nat.lt_add_right 1 l_mn;have l_c_1 : K.c < w.heap.size + 1 := Nat.lt_add_right 1 l_c
 go_wp2_with fail
 refine wp_at (fun W => Keeps [] w W ∧ W.heap[w.heap.size]? = some (.cells #[.int .i64 t.1, .string t.2] 101 (0, 0)) ∧ W.heap[w.heap.size + 1]? = some (.cells #[.int .i64 0, .string ⟨#[]⟩] 101 (0, 0))) ⟨zg, zd, zd⟩ ?_;rintro w1 ⟨Kw1, cw1_B, cw1_R⟩;have ⟨n_c_B, n_B_c⟩ := zne l_c;have ⟨n_mf_B, n_B_mf⟩ := zne l_mf;have ⟨n_ms_B, n_B_ms⟩ := zne l_ms;have ⟨n_mn_B, n_B_mn⟩ := zne l_mn;have o_B : w.heap.size ≤ w.heap.size := Nat.le_refl _;have off_B : Off K T (w.heap.size) := off_new HC0.out (Nat.le_refl _);have o0_B : K.w0.heap.size ≤ w.heap.size := Nat.le_trans HC0.out.keep.size (Nat.le_refl _);have ⟨n_c_R, n_R_c⟩ := zne (Nat.lt_add_right 1 l_c);have ⟨n_mf_R, n_R_mf⟩ := zne (Nat.lt_add_right 1 l_mf);have ⟨n_ms_R, n_R_ms⟩ := zne (Nat.lt_add_right 1 l_ms);have ⟨n_mn_R, n_R_mn⟩ := zne (Nat.lt_add_right 1 l_mn);have n_B_R : w.heap.size ≠ w.heap.size + 1 := by simp
 have n_R_B : w.heap.size + 1 ≠ w.heap.size := by simp
 have o_R : w.heap.size ≤ w.heap.size + 1 := Nat.le_trans (Nat.le_refl _) (Nat.le_add_right _ 1);have off_R : Off K T (w.heap.size + 1) := off_new HC0.out (Nat.le_add_right _ 1);have o0_R : K.w0.heap.size ≤ w.heap.size + 1 := Nat.le_trans HC0.out.keep.size (Nat.le_add_right _ 1);have HCw1 := zh (HC0.out.kp0 Kw1);have HSw1 := zh (HS0.out.loc Kw1 jg);have HKw1 := zh (HK0.out.trans Kw1 jg);have Rw1_B := zh cw1_B;have Rw1_R := zh cw1_R;clear Kw1 cw1_B cw1_R l_c l_c_1 l_mf_1 l_ms_1 l_mn_1 l_mf l_ms l_mn HC0 HS0 HK0
 go_loopg [] fu (fun g wr => RootI K T ua uc st r w (w.heap.size) (w.heap.size + 1) g wr)
 case atStart => exact ⟨t, HX.out, HCw1.out, HKw1.out, Rw1_B.out, Rw1_R.out⟩
 clear HX;obtain ⟨t1, hG, hc, hk, hB, hR⟩ := hrel;have HCr := zh hc; have HSr := zh ((CStep.refl K T w).loc hk jg); have HKr := zh hk; have RB := zh hB; have RR := zh hR;clear hc hk hB hR
 cases gk with
 | zero => simp [rootF] at hG
 | succ f =>
  rw [rootF] at hG
  cases ha : alook t1 st.same with
  | none =>
   rw [ha] at hG;simp only [Option.some.injEq] at hG;subst hG;have HA : Hid (alook (t1.1, t1.2) st.same = none) := zh ha;clear ha;obtain ⟨l_c, xc_0, xc_1, xc_2, xc_3, xc_4, xc_5, xc_6, xc_7, xc_8, xc_9, xc_10, yc_0, yc_1, yc_2, yc_3, yc_4, yc_5, yc_6, yc_7, yc_8, yc_9, yc_10⟩ := cf11 HCr.out.row;obtain ⟨-, l_mf, l_ms, l_mn⟩ := HCr.out.lt;obtain ⟨l_B, xB_0, xB_1, yB_0, yB_1⟩ := cf2 RB.out;have l_R := h_lt RR.out
   go_upto_region 1 with fail
   have hlk1 := (HCr.out.kp0 (Keeps.drew [] wr)).look_none HA.out;have hlk2 := (HCr.out.kp0 (kD (kA (k0 [] wr) (.cells #[.int .i64 0, .string ⟨#[]⟩] 101)))).look_none HA.out;have hlk3 := (HCr.out.kp0 (kA (kD (k0 [] wr)) (.cells #[.int .i64 0, .string ⟨#[]⟩] 101))).look_none HA.out
   go_cut [5, 6] (fun s5 s6 W => s5 = .pointer (some ⟨wr.heap.size, 0, none⟩) ∧ s6 = .bool false ∧ Keeps [] wr W ∧ W.heap[wr.heap.size]? = some (.cells #[.int .i64 0, .string ⟨#[]⟩] 101 (0, 0)))
   case first =>
    go_region
    all_goals
     go_wp2_with fail
     go_meet
     case rel => exact ⟨rfl, rfl, zg, zb⟩
   obtain ⟨rfl, rfl, Kw51, cc_U⟩ := hcut;generalize wc = w51 at *
   have cw51_U := cc_U;clear cc_U;have ⟨n_c_U, n_U_c⟩ := zne l_c;have ⟨n_mf_U, n_U_mf⟩ := zne l_mf;have ⟨n_ms_U, n_U_ms⟩ := zne l_ms;have ⟨n_mn_U, n_U_mn⟩ := zne l_mn;have ⟨n_B_U, n_U_B⟩ := zne l_B;have ⟨n_R_U, n_U_R⟩ := zne l_R;have o_U : w.heap.size ≤ wr.heap.size := HSr.out.size;have off_U : Off K T (wr.heap.size) := off_new HCr.out (Nat.le_refl _);have o0_U : K.w0.heap.size ≤ wr.heap.size := Nat.le_trans HCr.out.keep.size (Nat.le_refl _);have Rw51_B := zh (Kw51.at RB.out jg);have Rw51_R := zh (Kw51.at RR.out jg);have HCw51 := zh (HCr.out.kp0 Kw51);have HSw51 := zh (HSr.out.loc Kw51 jg);have HKw51 := zh (HKr.out.trans Kw51 jg);have Rw51_U := zh cw51_U;clear Kw51 cw51_U l_c xc_0 xc_1 xc_2 xc_3 xc_4 xc_5 xc_6 xc_7 xc_8 xc_9 xc_10 yc_0 yc_1 yc_2 yc_3 yc_4 yc_5 yc_6 yc_7 yc_8 yc_9 yc_10 l_B xB_0 xB_1 yB_0 yB_1 l_R l_mf l_ms l_mn RB RR HCr HSr HKr;obtain ⟨l_c, l_mf, l_ms, l_mn⟩ := HCw51.out.lt;obtain ⟨l_B, xB_0, xB_1, yB_0, yB_1⟩ := cf2 Rw51_B.out;obtain ⟨l_R, xR_0, xR_1, yR_0, yR_1⟩ := cf2 Rw51_R.out;have l_U := h_lt Rw51_U.out
   go_wp2_with fail
   refine ret_at (v := .agg #[.int .i64 t1.1, .string t1.2]) (fun W => Keeps [w.heap.size + 1] w51 W ∧ W.heap[w.heap.size + 1]? = some (.cells #[.int .i64 t1.1, .string t1.2] 101 (0, 0))) ⟨zg, (qb Rw51_R.out l_R)⟩ (fun w52 hW => ?_) rfl (fun w52 hW => ?_)
   ·obtain ⟨Kw52, cw52_R⟩ := hW;have q0 := cell_of_heap cw52_R 0;have q1 := cell_of_heap cw52_R 1;simp at q0 q1;exact jic
   obtain ⟨Kw52, cw52_R⟩ := hW;have Rw52_B := zh (Kw52.at Rw51_B.out jx);have Rw52_U := zh (Kw52.at Rw51_U.out (by simp [n_U_R]));have HCw52 := zh (HCw51.out.kp Kw52 (by simp [o0_R]) (by simp [n_c_R]) (by simp [n_mf_R]) (by simp [n_ms_R]) (by simp [n_mn_R]) zcb);have HSw52 := zh (HSw51.out.loc Kw52 zp);have HKw52 := zh (HKw51.out.trans Kw52 zp);have Rw52_R := zh cw52_R;clear Kw52 cw52_R l_c l_B xB_0 xB_1 yB_0 yB_1 l_R xR_0 xR_1 yR_0 yR_1 l_U l_mf l_ms l_mn Rw51_B Rw51_U HCw51 HSw51 HKw51 Rw51_R;exact ⟨rfl, HKw52.out⟩
  | some u =>
   rw [ha] at hG;simp only at hG;have HA : Hid (alook (t1.1, t1.2) st.same = some (u.1, u.2)) := zh ha;have HF := zh hG;clear ha hG;obtain ⟨l_c, xc_0, xc_1, xc_2, xc_3, xc_4, xc_5, xc_6, xc_7, xc_8, xc_9, xc_10, yc_0, yc_1, yc_2, yc_3, yc_4, yc_5, yc_6, yc_7, yc_8, yc_9, yc_10⟩ := cf11 HCr.out.row;obtain ⟨-, l_mf, l_ms, l_mn⟩ := HCr.out.lt;obtain ⟨l_B, xB_0, xB_1, yB_0, yB_1⟩ := cf2 RB.out;have l_R := h_lt RR.out
   go_upto_region 1 with fail
   have hlk1 := (HCr.out.kp0 (Keeps.drew [] wr)).look_some HA.out;have hlk2 := (HCr.out.kp0 (kD (kA (k0 [] wr) (.cells #[.int .i64 0, .string ⟨#[]⟩] 101)))).look_some HA.out;have hlk3 := (HCr.out.kp0 (kA (kD (k0 [] wr)) (.cells #[.int .i64 0, .string ⟨#[]⟩] 101))).look_some HA.out
   go_cut [5, 6] (fun s5 s6 W => s5 = .pointer (some ⟨wr.heap.size, 0, none⟩) ∧ s6 = .bool true ∧ Keeps [] wr W ∧ W.heap[wr.heap.size]? = some (.cells #[.int .i64 u.1, .string u.2] 101 (0, 0)))
   case first =>
    go_region
    all_goals
     go_wp2_with fail
     go_meet
     case rel => exact ⟨rfl, rfl, zg, zb⟩
   obtain ⟨rfl, rfl, Kw51, cc_U⟩ := hcut;generalize wc = w51 at *
   have cw51_U := cc_U;clear cc_U;have ⟨n_c_U, n_U_c⟩ := zne l_c;have ⟨n_mf_U, n_U_mf⟩ := zne l_mf;have ⟨n_ms_U, n_U_ms⟩ := zne l_ms;have ⟨n_mn_U, n_U_mn⟩ := zne l_mn;have ⟨n_B_U, n_U_B⟩ := zne l_B;have ⟨n_R_U, n_U_R⟩ := zne l_R;have o_U : w.heap.size ≤ wr.heap.size := HSr.out.size;have off_U : Off K T (wr.heap.size) := off_new HCr.out (Nat.le_refl _);have o0_U : K.w0.heap.size ≤ wr.heap.size := Nat.le_trans HCr.out.keep.size (Nat.le_refl _);have Rw51_B := zh (Kw51.at RB.out jg);have Rw51_R := zh (Kw51.at RR.out jg);have HCw51 := zh (HCr.out.kp0 Kw51);have HSw51 := zh (HSr.out.loc Kw51 jg);have HKw51 := zh (HKr.out.trans Kw51 jg);have Rw51_U := zh cw51_U;clear Kw51 cw51_U l_c xc_0 xc_1 xc_2 xc_3 xc_4 xc_5 xc_6 xc_7 xc_8 xc_9 xc_10 yc_0 yc_1 yc_2 yc_3 yc_4 yc_5 yc_6 yc_7 yc_8 yc_9 yc_10 l_B xB_0 xB_1 yB_0 yB_1 l_R l_mf l_ms l_mn RB RR HCr HSr HKr;obtain ⟨l_c, l_mf, l_ms, l_mn⟩ := HCw51.out.lt;obtain ⟨l_B, xB_0, xB_1, yB_0, yB_1⟩ := cf2 Rw51_B.out;have l_R := h_lt Rw51_R.out;obtain ⟨l_U, xU_0, xU_1, yU_0, yU_1⟩ := cf2 Rw51_U.out
   go_wp2_with fail
   go_roundg f
   case measure => omega
   refine inv_at (fun W => Keeps [w.heap.size] w51 W ∧ W.heap[w.heap.size]? = some (.cells #[.int .i64 u.1, .string u.2] 101 (0, 0))) ⟨zg, (qb Rw51_B.out l_B)⟩ ?_;rintro w52 ⟨Kw52, cw52_B⟩;have Rw52_R := zh (Kw52.at Rw51_R.out (by simp [n_R_B]));have Rw52_U := zh (Kw52.at Rw51_U.out (by simp [n_U_B]));have HCw52 := zh (HCw51.out.kp Kw52 (by simp [o0_B]) (by simp [n_c_B]) (by simp [n_mf_B]) (by simp [n_ms_B]) (by simp [n_mn_B]) (by simp [(off_B).2.2.2]));have HSw52 := zh (HSw51.out.loc Kw52 (by simp [o_B]));have HKw52 := zh (HKw51.out.trans Kw52 (by simp [o_B]));have Rw52_B := zh cw52_B;clear Kw52 cw52_B l_c l_B xB_0 xB_1 yB_0 yB_1 l_R l_U xU_0 xU_1 yU_0 yU_1 l_mf l_ms l_mn Rw51_R Rw51_U HCw51 HSw51 HKw51 Rw51_B;exact ⟨u, HF.out, HCw52.out, HKw52.out, Rw52_B.out, Rw52_R.out⟩
def OfI (K : CKey) (T : Nat → Prop) (ua : Option Addr) (uc : Nat) (st : NS) (name : ByteArray) (ps : List ByteArray) (w : World) (R : Nat) (g : Nat) (i : Value) (W : World) : Prop :=
 ∃ k : Nat, i = .int .i64 k ∧ k ≤ ps.length ∧ g + k = ps.length + 1 ∧ memB name (ps.take k) = false ∧ CK K T ua uc st W ∧ CStep K T T w W ∧ W.heap[R]? = some (.cells #[.int .i64 0, .string ⟨#[]⟩] 101 (0, 0))
theorem memB_append (s : ByteArray) : ∀ (l m : List ByteArray), memB s (l ++ m) = (memB s l || memB s m)
 | [], m => by simp [memB]
 | x :: l, m => by
   simp only [List.cons_append, memB]
   by_cases h : same s x = true
   ·simp [h]
   simp [h, memB_append s l m]
theorem same_comm (a b : ByteArray) : same a b = same b a := by
 by_cases h : a = b
 ·rw [h]
 have h1 : ¬ same a b = true := fun h2 => h (same_iff.1 h2)
 have h2 : ¬ same b a = true := fun h2 => h (same_iff.1 h2).symm
 simp only [Bool.not_eq_true] at h1 h2;rw [h1, h2]
theorem of_fn {K : CKey} (hK : CFix K) {T : Nat → Prop} {ua : Option Addr} {uc : Nat} {st : NS} {w : World} (h : CK K T ua uc st w) (name : ByteArray) {i : Nat} (hfn : st.fn = i + 1) (hi : i < K.g.funcs.length) : Calls Tryz.prog 75 #[.pointer (some ⟨K.c, 0, none⟩), .string name] w fun r w' => ∃ a st', r = .returned (.agg #[.int .i64 a, .string name]) ∧ ((memB name K.g.funcs[i].params = true ∧ a = (st.fn : Int) ∧ st' = st) ∨ (memB name K.g.funcs[i].params = false ∧ a = 0 ∧ st' = seePut st (0, name))) ∧ CK K T ua uc st' w' ∧ CStep K T T w w' := by
 have d0 : decide (0 < st.fn) = true := by simp [hfn]
 have d1 : (0 : Int) < (st.fn : Int) := by omega
 have d2 : (st.fn : Int) - 1 = (i : Int) := by omega
 have d3 : (i : Int) < (K.g.funcs.length : Int) := by omega
 have d4 : (st.fn : Int) ≤ 1000000 := by have := h.fn; have := hK.small; omega
 have d5 : K.g.funcs[i].params.length ≤ 1000000 := hK.psmall _ (List.getElem_mem hi);have HC0 := zh h; have HS0 := zh (CStep.refl K T w); have HF := zh hfn;clear h hfn
 go_enter Tryz.func75, Tryz.ntmps75
 obtain ⟨l_c, xc_0, xc_1, xc_2, xc_3, xc_4, xc_5, xc_6, xc_7, xc_8, xc_9, xc_10, yc_0, yc_1, yc_2, yc_3, yc_4, yc_5, yc_6, yc_7, yc_8, yc_9, yc_10⟩ := cf11 HC0.out.row;obtain ⟨-, l_mf, l_ms, l_mn⟩ := HC0.out.lt
 go_upto_region 2 with fail
 refine wp_at (fun W => Keeps [] w W ∧ W.heap[w.heap.size]? = some (.cells #[.int .i64 0, .string ⟨#[]⟩] 101 (0, 0))) ⟨zg, zb⟩ ?_;rintro w1 ⟨Kw1, cw1_R⟩;have ⟨n_c_R, n_R_c⟩ := zne l_c;have ⟨n_mf_R, n_R_mf⟩ := zne l_mf;have ⟨n_ms_R, n_R_ms⟩ := zne l_ms;have ⟨n_mn_R, n_R_mn⟩ := zne l_mn;have o_R : w.heap.size ≤ w.heap.size := Nat.le_refl _;have off_R : Off K T (w.heap.size) := off_new HC0.out (Nat.le_refl _);have o0_R : K.w0.heap.size ≤ w.heap.size := Nat.le_trans HC0.out.keep.size (Nat.le_refl _);have HCw1 := zh (HC0.out.kp0 Kw1);have HSw1 := zh (HS0.out.loc Kw1 jg);have Rw1_R := zh cw1_R;clear Kw1 cw1_R l_c xc_0 xc_1 xc_2 xc_3 xc_4 xc_5 xc_6 xc_7 xc_8 xc_9 xc_10 yc_0 yc_1 yc_2 yc_3 yc_4 yc_5 yc_6 yc_7 yc_8 yc_9 yc_10 l_mf l_ms l_mn HC0 HS0;obtain ⟨l_c, xc_0, xc_1, xc_2, xc_3, xc_4, xc_5, xc_6, xc_7, xc_8, xc_9, xc_10, yc_0, yc_1, yc_2, yc_3, yc_4, yc_5, yc_6, yc_7, yc_8, yc_9, yc_10⟩ := cf11 HCw1.out.row;obtain ⟨-, l_mf, l_ms, l_mn⟩ := HCw1.out.lt;have l_R := h_lt Rw1_R.out;obtain ⟨g, o, pa, pc, b0, b1, b2, b3, b4, hfa, -, hcp, -, -, -, -, -, -, hsp, -⟩ := CK.func hK (HCw1.out.kp0 (Keeps.drew [] w1)) hi;have HSP := zh hsp; have HFA := zh hfa;clear hsp;rw [hfa] at xc_1
 go_cut [25, 26, 27] (fun s25 s26 s27 W => s25 = .slice pa K.g.funcs[i].params.length pc ∧ s26 = .int .i64 K.g.funcs[i].params.length ∧ s27 = .int .i64 0 ∧ Keeps [] w1 W)
 case first =>
  go_region
  all_goals
   go_wp2_with fail
   go_meet
   case rel => exact ⟨rfl, rfl, rfl, zg⟩
 obtain ⟨rfl, rfl, rfl, hk⟩ := hcut;have HCl := zh (HCw1.out.kp0 hk); have HSl := zh (HSw1.out.loc hk jg); have RRl := zh (hk.at Rw1_R.out jg);clear hk hcp l_c xc_0 xc_1 xc_2 xc_3 xc_4 xc_5 xc_6 xc_7 xc_8 xc_9 xc_10 yc_0 yc_1 yc_2 yc_3 yc_4 yc_5 yc_6 yc_7 yc_8 yc_9 yc_10 l_R l_mf l_ms l_mn HCw1 HSw1;clear hfa;generalize wc = wl at *
 go_wp2_with fail
 go_loopg [27] (K.g.funcs[i].params.length + 1) (fun g j wr => OfI K T ua uc st name K.g.funcs[i].params w (w.heap.size) g j wr)
 case atStart => exact ⟨0, rfl, Nat.zero_le _, rfl, rfl, HCl.out, HSl.out, RRl.out⟩
 obtain ⟨k, rfl, hk1, hk2, hm, hc, hs, hR⟩ := hrel;have HCr := zh hc; have HSr := zh hs; have RR := zh hR; have HM0 := zh hm;clear hc hs hR hm
 by_cases hlt : k < K.g.funcs[i].params.length
 ·obtain ⟨g2, o2, hpa, hcs⟩ := CK.str HCr.out HSP.out hlt;subst hpa;have hta : K.g.funcs[i].params.take (k + 1) = K.g.funcs[i].params.take k ++ [K.g.funcs[i].params[k]] := List.take_succ_eq_append_getElem hlt
  have hmt : memB name (K.g.funcs[i].params.take (k + 1)) = same name K.g.funcs[i].params[k] := by
   rw [hta, memB_append, HM0.out]; simp only [memB, Bool.false_or]; split <;> simp_all
  by_cases heq : same K.g.funcs[i].params[k] name = true
  ·have hm1 : memB name K.g.funcs[i].params = true := by
    have h1 := List.take_append_drop (k + 1) K.g.funcs[i].params;rw [← h1, memB_append, hmt, same_comm, heq]; rfl
   have heb : (K.g.funcs[i].params[k].toList == name.toList) = true := by rw [same_eq]; exact heq
   have HMT := zh hm1;clear hta hmt hm1 heq;generalize K.g.funcs[i].params[k] = q at *
   obtain ⟨l_c, xc_0, xc_1, xc_2, xc_3, xc_4, xc_5, xc_6, xc_7, xc_8, xc_9, xc_10, yc_0, yc_1, yc_2, yc_3, yc_4, yc_5, yc_6, yc_7, yc_8, yc_9, yc_10⟩ := cf11 HCr.out.row;obtain ⟨-, l_mf, l_ms, l_mn⟩ := HCr.out.lt;obtain ⟨l_R, xR_0, xR_1, yR_0, yR_1⟩ := cf2 RR.out
   go_wp2_with fail
   refine ret_at (v := .agg #[.int .i64 st.fn, .string name]) (fun W => Keeps [w.heap.size] wr W ∧ W.heap[w.heap.size]? = some (.cells #[.int .i64 st.fn, .string name] 101 (0, 0))) ⟨zg, (qb RR.out l_R)⟩ (fun w51 hW => ?_) rfl (fun w51 hW => ?_)
   ·obtain ⟨Kw51, cw51_R⟩ := hW;have q0 := cell_of_heap cw51_R 0;have q1 := cell_of_heap cw51_R 1;simp at q0 q1;exact jic
   obtain ⟨Kw51, cw51_R⟩ := hW;have HCw51 := zh (HCr.out.kp Kw51 (by simp [o0_R]) (by simp [n_c_R]) (by simp [n_mf_R]) (by simp [n_ms_R]) (by simp [n_mn_R]) zcb);have HSw51 := zh (HSr.out.loc Kw51 zp);have Rw51_R := zh cw51_R;clear Kw51 cw51_R l_c xc_0 xc_1 xc_2 xc_3 xc_4 xc_5 xc_6 xc_7 xc_8 xc_9 xc_10 yc_0 yc_1 yc_2 yc_3 yc_4 yc_5 yc_6 yc_7 yc_8 yc_9 yc_10 l_R xR_0 xR_1 yR_0 yR_1 l_mf l_ms l_mn HCr HSr RR;exact ⟨_, _, rfl, .inl ⟨HMT.out, rfl, rfl⟩, HCw51.out, HSw51.out⟩
  simp only [Bool.not_eq_true] at heq;have heb : (K.g.funcs[i].params[k].toList == name.toList) = false := by rw [same_eq]; exact heq
  have HM := zh (show memB name (K.g.funcs[i].params.take (k + 1)) = false by rw [hmt, same_comm]; exact heq);clear hta hmt heq;generalize K.g.funcs[i].params[k] = q at *
  cases gk with
  | zero => omega
  | succ f =>
   obtain ⟨l_c, l_mf, l_ms, l_mn⟩ := HCr.out.lt;have l_R := h_lt RR.out
   go_wp2_with fail
   go_roundg f
   case measure => omega
   exact ⟨k + 1, by first | rfl | (simp; done) | (simp; omega), by omega, by omega, HM.out, HCr.out, HSr.out, RR.out⟩
 have hke : k = K.g.funcs[i].params.length := by omega
 have HMF := zh (show memB name K.g.funcs[i].params = false by have := HM0.out; rw [hke, List.take_length] at this; exact this);clear hke;obtain ⟨l_c, l_mf, l_ms, l_mn⟩ := HCr.out.lt;have l_R := h_lt RR.out
 go_upto_region 9 with fail
 refine wp_at (fun W => Keeps [] wr W ∧ W.heap[wr.heap.size]? = some (.cells #[.int .i64 0, .string name] 101 (0, 0))) ⟨zg, zb⟩ ?_;rintro w51 ⟨Kw51, cw51_U⟩;have ⟨n_c_U, n_U_c⟩ := zne l_c;have ⟨n_mf_U, n_U_mf⟩ := zne l_mf;have ⟨n_ms_U, n_U_ms⟩ := zne l_ms;have ⟨n_mn_U, n_U_mn⟩ := zne l_mn;have ⟨n_R_U, n_U_R⟩ := zne l_R;have o_U : w.heap.size ≤ wr.heap.size := HSr.out.size;have off_U : Off K T (wr.heap.size) := off_new HCr.out (Nat.le_refl _);have o0_U : K.w0.heap.size ≤ wr.heap.size := Nat.le_trans HCr.out.keep.size (Nat.le_refl _);have Rw51_R := zh (Kw51.at RR.out jg);have HCw51 := zh (HCr.out.kp0 Kw51);have HSw51 := zh (HSr.out.loc Kw51 jg);have Rw51_U := zh cw51_U;clear Kw51 cw51_U l_c l_R l_mf l_ms l_mn RR HCr HSr;obtain ⟨l_c, xc_0, xc_1, xc_2, xc_3, xc_4, xc_5, xc_6, xc_7, xc_8, xc_9, xc_10, yc_0, yc_1, yc_2, yc_3, yc_4, yc_5, yc_6, yc_7, yc_8, yc_9, yc_10⟩ := cf11 HCw51.out.row;obtain ⟨-, l_mf, l_ms, l_mn⟩ := HCw51.out.lt;have l_R := h_lt Rw51_R.out;obtain ⟨l_U, xU_0, xU_1, yU_0, yU_1⟩ := cf2 Rw51_U.out;obtain ⟨es, ek, hes, hes2⟩ := HCw51.out.seen;have HEB := zh hes; have HES := zh hes2;clear hes hes2;have hup : (Instr.mapUpdate 67 (.map (some K.mn)) (.agg #[.int .i64 (0), .string name]) (.agg #[])).run Tryz.prog w51.drew = .ok () (mset w51.drew K.mn (.map (ents tval (kput ((0, name) : Thing) (.agg #[]) ek es).1) (kput ((0, name) : Thing) (.agg #[]) ek es).2)) := run_see (K := K) (W := w51.drew) HEB.out (0) name
 go_cut [] (fun W => Keeps [K.mn] w51 W ∧ W.heap[K.mn]? = some (.map (ents tval (kput ((0, name) : Thing) (.agg #[]) ek es).1) (kput ((0, name) : Thing) (.agg #[]) ek es).2))
 case first =>
  go_region
  all_goals
   go_wp2_with fail
   go_meet
   case rel => exact ⟨zg, qab⟩
 obtain ⟨Kw52, cc_mn⟩ := hcut;generalize wc = w52 at *
 have cw52_mn := cc_mn;clear cc_mn hup;have Rw52_R := zh (Kw52.at Rw51_R.out (by simp [n_R_mn]));have Rw52_U := zh (Kw52.at Rw51_U.out (by simp [n_U_mn]));have HCw52 : Hid (CK K T ua uc (seePut st (0, name)) w52) := zh (HCw51.out.see hK (0, name) HES.out Kw52 cw52_mn);have HSw52 := zh (HSw51.out.mn Kw52);have Rw52_mn := zh cw52_mn;clear Kw52 cw52_mn l_c xc_0 xc_1 xc_2 xc_3 xc_4 xc_5 xc_6 xc_7 xc_8 xc_9 xc_10 yc_0 yc_1 yc_2 yc_3 yc_4 yc_5 yc_6 yc_7 yc_8 yc_9 yc_10 l_R l_U xU_0 xU_1 yU_0 yU_1 l_mf l_ms l_mn Rw51_R Rw51_U HCw51 HSw51;obtain ⟨l_c, l_mf, l_ms, l_mn⟩ := HCw52.out.lt;obtain ⟨l_R, xR_0, xR_1, yR_0, yR_1⟩ := cf2 Rw52_R.out;obtain ⟨l_U, xU_0, xU_1, yU_0, yU_1⟩ := cf2 Rw52_U.out
 go_wp2_with fail
 refine ret_at (v := .agg #[.int .i64 0, .string name]) (fun W => Keeps [w.heap.size] w52 W ∧ W.heap[w.heap.size]? = some (.cells #[.int .i64 0, .string name] 101 (0, 0))) ⟨zg, (qb Rw52_R.out l_R)⟩ (fun w53 hW => ?_) rfl (fun w53 hW => ?_)
 ·obtain ⟨Kw53, cw53_R⟩ := hW;have q0 := cell_of_heap cw53_R 0;have q1 := cell_of_heap cw53_R 1;simp at q0 q1;exact jic
 obtain ⟨Kw53, cw53_R⟩ := hW;have Rw53_U := zh (Kw53.at Rw52_U.out (by simp [n_U_R]));have HCw53 := zh (HCw52.out.kp Kw53 (by simp [o0_R]) (by simp [n_c_R]) (by simp [n_mf_R]) (by simp [n_ms_R]) (by simp [n_mn_R]) zcb);have HSw53 := zh (HSw52.out.loc Kw53 zp);have Rw53_R := zh cw53_R;clear Kw53 cw53_R l_c l_R xR_0 xR_1 yR_0 yR_1 l_U xU_0 xU_1 yU_0 yU_1 l_mf l_ms l_mn Rw52_U HCw52 HSw52 Rw52_R;exact ⟨_, _, rfl, .inr ⟨HMF.out, rfl, rfl⟩, HCw53.out, HSw53.out⟩
theorem of_0 {K : CKey} (hK : CFix K) {T : Nat → Prop} {ua : Option Addr} {uc : Nat} {st : NS} {w : World} (h : CK K T ua uc st w) (name : ByteArray) (h0 : decide (0 < st.fn) = false) : Calls Tryz.prog 75 #[.pointer (some ⟨K.c, 0, none⟩), .string name] w fun r w' => r = .returned (.agg #[.int .i64 0, .string name]) ∧ CK K T ua uc (seePut st (0, name)) w' ∧ CStep K T T w w' := by
 have HC0 := zh h; have HS0 := zh (CStep.refl K T w);clear h
 go_enter Tryz.func75, Tryz.ntmps75
 obtain ⟨l_c, xc_0, xc_1, xc_2, xc_3, xc_4, xc_5, xc_6, xc_7, xc_8, xc_9, xc_10, yc_0, yc_1, yc_2, yc_3, yc_4, yc_5, yc_6, yc_7, yc_8, yc_9, yc_10⟩ := cf11 HC0.out.row;obtain ⟨-, l_mf, l_ms, l_mn⟩ := HC0.out.lt;have l_mf_1 : K.mf < w.heap.size + 1 := Nat.lt_add_right 1 l_mf;have l_ms_1 : K.ms < w.heap.size + 1 := Nat.lt_add_right 1 l_ms;have l_mn_1 : K.mn < w.heap.size + 1 := Nat.lt_add_right 1 l_mn;have l_c_1 : K.c < w.heap.size + 1 := Nat.lt_add_right 1 l_c
 go_upto_region 9 with fail
 refine wp_at (fun W => Keeps [] w W ∧ W.heap[w.heap.size]? = some (.cells #[.int .i64 0, .string ⟨#[]⟩] 101 (0, 0)) ∧ W.heap[w.heap.size + 1]? = some (.cells #[.int .i64 0, .string name] 101 (0, 0))) ⟨zg, zd, zd⟩ ?_;rintro w1 ⟨Kw1, cw1_R, cw1_U⟩;have ⟨n_c_R, n_R_c⟩ := zne l_c;have ⟨n_mf_R, n_R_mf⟩ := zne l_mf;have ⟨n_ms_R, n_R_ms⟩ := zne l_ms;have ⟨n_mn_R, n_R_mn⟩ := zne l_mn;have o_R : w.heap.size ≤ w.heap.size := Nat.le_refl _;have off_R : Off K T (w.heap.size) := off_new HC0.out (Nat.le_refl _);have o0_R : K.w0.heap.size ≤ w.heap.size := Nat.le_trans HC0.out.keep.size (Nat.le_refl _);have ⟨n_c_U, n_U_c⟩ := zne (Nat.lt_add_right 1 l_c);have ⟨n_mf_U, n_U_mf⟩ := zne (Nat.lt_add_right 1 l_mf);have ⟨n_ms_U, n_U_ms⟩ := zne (Nat.lt_add_right 1 l_ms);have ⟨n_mn_U, n_U_mn⟩ := zne (Nat.lt_add_right 1 l_mn);have n_R_U : w.heap.size ≠ w.heap.size + 1 := by simp
 have n_U_R : w.heap.size + 1 ≠ w.heap.size := by simp
 have o_U : w.heap.size ≤ w.heap.size + 1 := Nat.le_trans (Nat.le_refl _) (Nat.le_add_right _ 1);have off_U : Off K T (w.heap.size + 1) := off_new HC0.out (Nat.le_add_right _ 1);have o0_U : K.w0.heap.size ≤ w.heap.size + 1 := Nat.le_trans HC0.out.keep.size (Nat.le_add_right _ 1);have HCw1 := zh (HC0.out.kp0 Kw1);have HSw1 := zh (HS0.out.loc Kw1 jg);have Rw1_R := zh cw1_R;have Rw1_U := zh cw1_U;clear Kw1 cw1_R cw1_U l_c l_c_1 xc_0 xc_1 xc_2 xc_3 xc_4 xc_5 xc_6 xc_7 xc_8 xc_9 xc_10 yc_0 yc_1 yc_2 yc_3 yc_4 yc_5 yc_6 yc_7 yc_8 yc_9 yc_10 l_mf_1 l_ms_1 l_mn_1 l_mf l_ms l_mn HC0 HS0;obtain ⟨l_c, xc_0, xc_1, xc_2, xc_3, xc_4, xc_5, xc_6, xc_7, xc_8, xc_9, xc_10, yc_0, yc_1, yc_2, yc_3, yc_4, yc_5, yc_6, yc_7, yc_8, yc_9, yc_10⟩ := cf11 HCw1.out.row;obtain ⟨-, l_mf, l_ms, l_mn⟩ := HCw1.out.lt;have l_R := h_lt Rw1_R.out;obtain ⟨l_U, xU_0, xU_1, yU_0, yU_1⟩ := cf2 Rw1_U.out;obtain ⟨es, ek, hes, hes2⟩ := HCw1.out.seen;have HEB := zh hes; have HES := zh hes2;clear hes hes2;have hup : (Instr.mapUpdate 67 (.map (some K.mn)) (.agg #[.int .i64 (0), .string name]) (.agg #[])).run Tryz.prog w1.drew = .ok () (mset w1.drew K.mn (.map (ents tval (kput ((0, name) : Thing) (.agg #[]) ek es).1) (kput ((0, name) : Thing) (.agg #[]) ek es).2)) := run_see (K := K) (W := w1.drew) HEB.out (0) name
 go_cut [] (fun W => Keeps [K.mn] w1 W ∧ W.heap[K.mn]? = some (.map (ents tval (kput ((0, name) : Thing) (.agg #[]) ek es).1) (kput ((0, name) : Thing) (.agg #[]) ek es).2))
 case first =>
  go_region
  all_goals
   go_wp2_with fail
   go_meet
   case rel => exact ⟨zg, qab⟩
 obtain ⟨Kw2, cc_mn⟩ := hcut;generalize wc = w2 at *
 have cw2_mn := cc_mn;clear cc_mn hup;have Rw2_R := zh (Kw2.at Rw1_R.out (by simp [n_R_mn]));have Rw2_U := zh (Kw2.at Rw1_U.out (by simp [n_U_mn]));have HCw2 : Hid (CK K T ua uc (seePut st (0, name)) w2) := zh (HCw1.out.see hK (0, name) HES.out Kw2 cw2_mn);have HSw2 := zh (HSw1.out.mn Kw2);have Rw2_mn := zh cw2_mn;clear Kw2 cw2_mn l_c xc_0 xc_1 xc_2 xc_3 xc_4 xc_5 xc_6 xc_7 xc_8 xc_9 xc_10 yc_0 yc_1 yc_2 yc_3 yc_4 yc_5 yc_6 yc_7 yc_8 yc_9 yc_10 l_R l_U xU_0 xU_1 yU_0 yU_1 l_mf l_ms l_mn Rw1_R Rw1_U HCw1 HSw1;obtain ⟨l_c, l_mf, l_ms, l_mn⟩ := HCw2.out.lt;obtain ⟨l_R, xR_0, xR_1, yR_0, yR_1⟩ := cf2 Rw2_R.out;obtain ⟨l_U, xU_0, xU_1, yU_0, yU_1⟩ := cf2 Rw2_U.out
 go_wp2_with fail
 refine ret_at (v := .agg #[.int .i64 0, .string name]) (fun W => Keeps [w.heap.size] w2 W ∧ W.heap[w.heap.size]? = some (.cells #[.int .i64 0, .string name] 101 (0, 0))) ⟨zg, (qb Rw2_R.out l_R)⟩ (fun w3 hW => ?_) rfl (fun w3 hW => ?_)
 ·obtain ⟨Kw3, cw3_R⟩ := hW;have q0 := cell_of_heap cw3_R 0;have q1 := cell_of_heap cw3_R 1;simp at q0 q1;exact jic
 obtain ⟨Kw3, cw3_R⟩ := hW;have Rw3_U := zh (Kw3.at Rw2_U.out (by simp [n_U_R]));have HCw3 := zh (HCw2.out.kp Kw3 (by simp [o0_R]) (by simp [n_c_R]) (by simp [n_mf_R]) (by simp [n_ms_R]) (by simp [n_mn_R]) zcb);have HSw3 := zh (HSw2.out.loc Kw3 zp);have Rw3_R := zh cw3_R;clear Kw3 cw3_R l_c l_R xR_0 xR_1 yR_0 yR_1 l_U xU_0 xU_1 yU_0 yU_1 l_mf l_ms l_mn Rw2_U HCw2 HSw2 Rw2_R;exact ⟨rfl, HCw3.out, HSw3.out⟩
theorem of_any {K : CKey} (hK : CFix K) {T : Nat → Prop} {ua : Option Addr} {uc : Nat} {st : NS} {w : World} (h : CK K T ua uc st w) (name : ByteArray) : Calls Tryz.prog 75 #[.pointer (some ⟨K.c, 0, none⟩), .string name] w fun r w' => r = .returned (.agg #[.int .i64 (ofF K.g st name).1.1, .string (ofF K.g st name).1.2]) ∧ CK K T ua uc (ofF K.g st name).2 w' ∧ CStep K T T w w' := by
 by_cases h0 : st.fn = 0
 ·have e1 : ofF K.g st name = ((0, name), seePut st (0, name)) := by unfold ofF; rw [if_neg qg]
  rw [e1];exact of_0 hK h name jeb
 obtain ⟨i, hfn⟩ : ∃ i, st.fn = i + 1 := ⟨st.fn - 1, by omega⟩;have hi : i < K.g.funcs.length := by have := h.fn; omega
 have hp : paramsOf K.g st.fn = K.g.funcs[i].params := by unfold paramsOf; rw [hfn, Nat.add_sub_cancel, List.getElem?_eq_getElem hi]
 refine (of_fn hK h name hfn hi).mono fun r w' ⟨a, st', hr, hm, hc, hs⟩ => ?_
 subst hr
 rcases hm with ⟨hm, rfl, rfl⟩ | ⟨hm, rfl, rfl⟩
 ·have e1 : ofF K.g st' name = ((st'.fn, name), st') := by unfold ofF; rw [if_pos ⟨by omega, by rw [hp]; exact hm⟩]
  rw [e1]; exact ⟨rfl, hc, hs⟩
 have e1 : ofF K.g st name = ((0, name), seePut st (0, name)) := by unfold ofF; rw [if_neg (by rw [hp, hm]; simp)]
 rw [e1]; exact ⟨rfl, hc, hs⟩
open Go.RowKit Go.ChangeMaps
/-! ### what a map holds behind a store -/
def kput1 {κ : Type} [DecidableEq κ] (k : κ) (v : Value) (c : Nat) : List (Ent κ) → List (Ent κ)
 | [] => [⟨k, v, c⟩]
 | e :: l => if k = e.key then { e with val := v } :: l else e :: kput1 k v c l
theorem klook_succ {κ : Type} [DecidableEq κ] (k : κ) : ∀ (l : List (Ent κ)) (i : Nat), klook k l (i + 1) = (klook k l i).map fun x => (x.1 + 1, x.2)
 | [], _ => rfl
 | e :: l, i => by
   unfold klook
   split
   ·rfl
   exact klook_succ k l (i + 1)
theorem kput_eq {κ : Type} [DecidableEq κ] (k : κ) (v : Value) (c : Nat) : ∀ l : List (Ent κ), (kput k v c l).1 = kput1 k v c l
 | [] => rfl
 | e :: l => by
   have ih := kput_eq k v c l;unfold kput at ih ⊢;unfold kput1 klook
   by_cases h : k = e.key
   ·simp [h]
   rw [if_neg h, if_neg h, klook_succ]
   cases h2 : klook k l 0 with
   | none => rw [h2] at ih; simpa using ih
   | some x => rw [h2] at ih; simpa using ih
theorem kval_kput {κ : Type} [DecidableEq κ] (k s : κ) (v : Value) (c : Nat) : ∀ l : List (Ent κ), kval s (kput k v c l).1 = if s = k then some v else kval s l := by
 intro l;rw [kput_eq]
 induction l with
 | nil =>
  unfold kput1;rw [kval_cons]
 | cons e l ih =>
  unfold kput1
  by_cases h : k = e.key
  ·rw [if_pos h, kval_cons, kval_cons]
   by_cases h2 : s = e.key
   ·simp [h2, h]
   have : ¬ s = k := fun h3 => h2 (h3.trans h)
   simp [h2, this]
  rw [if_neg h, kval_cons, kval_cons, ih]
  by_cases h2 : s = e.key
  ·have : ¬ s = k := fun h3 => h (h3.symm.trans h2)
   simp [h2];intro h3;exact absurd h3.symm h
  simp [h2]
def KindW (W : World) (b : Nat) (f : Thing → Nat) : Prop := ∃ es k, W.heap[b]? = some (.map (ents tval es) k) ∧ ∀ t, (kval t es).getD (.int .i64 0) = .int .i64 (f t : Nat)
theorem KindW.keep {w w' : World} {b : Nat} {f : Thing → Nat} {fp : List Nat} (h : KindW w b f) (hk : Keeps fp w w') (hb : b ∉ fp) : KindW w' b f := by
 exact jud
theorem KindW.lt {w : World} {b : Nat} {f : Thing → Nat} (h : KindW w b f) : b < w.heap.size := by obtain ⟨_, _, h1, _⟩ := h; exact h_lt h1
theorem KindW.put {w' : World} {b : Nat} {f : Thing → Nat} {t : Thing} {n : Nat} {es : List (Ent Thing)} {k : Nat} (he : ∀ t, (kval t es).getD (.int .i64 0) = .int .i64 (f t : Nat)) (hb : w'.heap[b]? = some (.map (ents tval (kput t (.int .i64 n) k es).1) (kput t (.int .i64 n) k es).2)) : KindW w' b (fun s => if s = t then n else f s) := by
 refine ⟨_, _, hb, fun s => ?_⟩;rw [kval_kput]
 by_cases h : s = t
 ·simp [h]
 simp [h, he]
/-! ### a range over a set -/
def RangeS (W : World) (r b : Nat) (l p : List Thing) (n : Nat) : Prop :=
 ∃ (es ps qs : List (Ent Thing)) (k : Nat), W.heap[b]? = some (.map (ents tval es) k) ∧ SetL es k l ∧ W.heap[r]? = some (.mapIter (some b) k (ps.map (·.born)).toArray k) ∧ (ps ++ qs).Perm es ∧ p = ps.map (·.key) ∧ n = qs.length
theorem RangeS.keep {w w' : World} {r b : Nat} {l p : List Thing} {n : Nat} {fp : List Nat} (h : RangeS w r b l p n) (hk : Keeps fp w w') (hb : b ∉ fp) (hr : r ∉ fp) : RangeS w' r b l p n := by
 obtain ⟨es, ps, qs, k, h1, h2, h3, h4⟩ := h; exact ⟨es, ps, qs, k, hk.at h1 hb, h2, hk.at h3 hr, h4⟩
theorem RangeS.lt {w : World} {r b : Nat} {l p : List Thing} {n : Nat} (h : RangeS w r b l p n) : r < w.heap.size ∧ b < w.heap.size := by
 obtain ⟨es, ps, qs, k, h1, h2, h3, h4⟩ := h; exact ⟨h_lt h3, h_lt h1⟩
theorem RangeS.start {w : World} {b : Nat} {l : List Thing} (h : SetT w b l) {t e : TypeId} {T : TypeId} (hT : Tryz.prog.underlying T = some (.map t e)) : ∃ w', (Instr.range T (.map (some b))).run Tryz.prog w = .ok (.pointer (some ⟨w.heap.size, 0, none⟩)) w' ∧ Keeps [] w w' ∧ w'.heap.size = w.heap.size + 1 ∧ RangeS w' w.heap.size b l [] l.length := by
 obtain ⟨es, k, h1, h2⟩ := h;refine ⟨_, run_range_map w T t e b _ k hT h1, kA (k0 [] w) _, by simp, es, [], es, k, ?_, h2, ?_, by simp, rfl, ?_⟩
 ·rw [heap_alloc_old w _ (h_lt h1), h1]
 ·rw [heap_alloc_new]; rfl
 have := congrArg List.length h2.1
 simpa using this.symm
theorem SetL.keys {es : List (Ent Thing)} {k : Nat} {l : List Thing} (h : SetL es k l) : es.map (·.key) = l := by
 have := congrArg (List.map Prod.fst) h.1
 simpa [List.map_map, Function.comp_def] using this
theorem ents_born (es : List (Ent Thing)) : ((ents tval es).toList.map (·.born)) = es.map (·.born) := by simp [ents, Function.comp_def]
theorem RangeS.next {w : World} {r b : Nat} {l p : List Thing} {n : Nat} (h : RangeS w r b l p n) (ty : TypeId) : (p.Perm l ∧ (Instr.next (.pointer (some ⟨r, 0, none⟩)) false ty).run Tryz.prog w = .ok (.tuple #[.bool false]) w) ∨ ∃ (t : Thing) (m : Nat) (w' : World), t ∈ l ∧ n = m + 1 ∧ (Instr.next (.pointer (some ⟨r, 0, none⟩)) false ty).run Tryz.prog w = .ok (.tuple #[.bool true, .agg #[.int .i64 t.1, .string t.2], .agg #[]]) w' ∧ Keeps [r] w w' ∧ w'.heap.size = w.heap.size ∧ RangeS w' r b l (p ++ [t]) m := by
 obtain ⟨es, ps, qs, k, h1, h2, h3, h4, rfl, rfl⟩ := h
 have hborn : ∀ x ∈ (ents tval es).toList, x.born < k := fun x hx => by
  have : x.born ∈ (ents tval es).toList.map (·.born) := List.mem_map.2 ⟨x, hx, rfl⟩;rw [ents_born] at this;obtain ⟨e, he, hb⟩ := List.mem_map.1 this;rw [← hb]; exact h2.2.2 e he
 have hnd : ((ps ++ qs).map (·.born)).Nodup := (h4.map (·.born)).nodup_iff.2 h2.2.1
 rcases run_next_at (P := Tryz.prog) w ty r b k k _ _ k h3 h1 hborn (Nat.le_refl _) with ⟨h0, hrun⟩ | ⟨x, hx, w1, hw1, hrun⟩
 ·refine .inl ⟨?_, hrun⟩
  have hq : qs = [] := by
   cases qs with
   | nil => rfl
   | cons e qs =>
    exfalso
    have hm : e ∈ es := h4.subset jg
    have hn : e.born ∉ ps.map (·.born) := by
     simp only [List.map_append, List.map_cons] at hnd;intro hc;exact (List.nodup_append.1 hnd).2.2 _ hc _ (List.mem_cons_self ..) rfl
    have : (⟨tval e.key, e.val, e.born⟩ : MapEntry) ∈ leftOf (ents tval es) (ps.map (·.born)).toArray := by
     unfold leftOf;rw [Array.mem_filter];refine ⟨?_, ?_⟩
     ·simp only [ents, List.mem_toArray, List.mem_map]; exact ⟨e, hm, rfl⟩
     simpa using hn
    rw [Array.eq_empty_of_size_eq_zero h0] at this;simp at this
  subst hq;rw [List.append_nil] at h4;rw [← h2.keys];exact h4.map _
 right
 have hx2 : x ∈ leftOf (ents tval es) (ps.map (·.born)).toArray := by simpa using hx
 unfold leftOf at hx2;rw [Array.mem_filter] at hx2;obtain ⟨hxm, hxn⟩ := hx2;simp only [ents, List.mem_toArray, List.mem_map] at hxm;obtain ⟨e, hem, rfl⟩ := hxm;have hen : e.born ∉ ps.map (·.born) := by simpa using hxn
 have heq : e ∈ qs := by
  have := h4.symm.subset hem
  rcases List.mem_append.1 this with h | h
  ·exact absurd (List.mem_map.2 ⟨e, h, rfl⟩) hen
  exact h
 obtain ⟨a, c, rfl⟩ := List.append_of_mem heq
 have hv : e.val = .agg #[] := by
  exact jtd
 have hw1h : w1.heap = w.heap := by rcases hw1 with rfl | rfl <;> rfl
 have hrl : r < w.heap.size := h_lt h3;have hbl : b < w.heap.size := h_lt h1;have hne : b ≠ r := fun hc => by subst hc; rw [h1] at h3; cases h3
 refine ⟨e.key, a.length + c.length, _, ?_, by simp; omega, by rw [hv] at hrun; exact hrun, ?_, ?_, es, ps ++ [e], a ++ c, k, ?_, h2, ?_, ?_, by simp, by simp⟩
 ·rw [← h2.keys]; exact List.mem_map.2 ⟨e, hem, rfl⟩
 ·rcases hw1 with rfl | rfl
  ·exact ⟨rfl, rfl, rfl, by simp [setBlock], fun j hj hn => by simp at hn; simp [setBlock, Array.getElem?_setIfInBounds, Ne.symm hn]⟩
  exact ⟨rfl, rfl, rfl, by simp [setBlock], fun j hj hn => by simp at hn; simp [setBlock, Array.getElem?_setIfInBounds, Ne.symm hn]; rfl⟩
 ·simp [setBlock, hw1h]
 ·simp [setBlock, hw1h, Ne.symm hne, h1]
 ·simp [setBlock, hw1h, hrl]
 refine List.Perm.trans ?_ h4;simp only [List.append_assoc, List.cons_append, List.nil_append];exact (List.perm_middle.symm).append_left ps
end Go.Proofs.YtkfillfkbhbbjaaGreatDoor
