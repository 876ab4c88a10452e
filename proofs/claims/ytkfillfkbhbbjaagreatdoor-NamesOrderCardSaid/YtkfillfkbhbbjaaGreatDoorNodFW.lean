/- BltL, NodW, NodVW, NodOW, NodX5W, NodX11W, NodX41W, NodFW. -/
import Derived.Test.YtkfillfkbhbbjaaGreatDoorLeav
import Derived.Deep.RegionHeld3
set_option maxRecDepth 100000
set_option maxHeartbeats 4000000
set_option linter.unusedSimpArgs false
set_option linter.unusedVariables false
namespace Go.Proofs.YtkfillfkbhbbjaaGreatDoor
open Go.RowKit
theorem of_c {K : CKey} (hK : CFix K) {T : Nat → Prop} {ua : Option Addr} {uc : Nat} {st : NS} {w : World} (h : CK K T ua uc st w) (name : ByteArray) :
  Calls Tryz.prog 75 #[.pointer (some ⟨K.c, 0, none⟩), .string name] w fun r w' => ∃ T' ua' uc', r = .returned (.agg #[.int .i64 (ofF K.g st name).1.1, .string (ofF K.g st name).1.2]) ∧ CK K T' ua' uc' (ofF K.g st name).2 w' ∧ CStep K T T' w w' :=
 (of_any hK h name).mono fun _ _ ⟨h1, h2, h3⟩ => ⟨_, _, _, h1, h2, h3⟩
theorem built_len {K : CKey} (hK : CFix K) {T : Nat → Prop} {ua : Option Addr} {uc : Nat} {st : NS} {w : World} (h : CK K T ua uc st w) (kd : Int) (tx : ByteArray) (fm : Nat) (na : Option Addr) (nc re im : Nat) (kids : List Node) {c1 c2 : Nat} (hcn : countsF tx = (c1, c2)) (hn : ¬ kids.length < c1) (hm : ¬ c2 < kids.length) (hkd : KidsR K.w0 (fun _ => True) kids (.slice na kids.length nc)) (htx : tx = ⟨#[108, 101, 110, 103, 116, 104]⟩) (hlt : 0 < kids.length) (h1 : kids.length = 1) (h4 : (kids[0]'hlt).kind = 4) : Calls Tryz.prog 77 #[.pointer (some ⟨K.c, 0, none⟩), .agg #[.int .i64 kd, .string tx, .float .f64 fm, .slice na kids.length nc, .complex .f64 re im]] w fun r w' => ∃ T' ua' uc', r = .returned (.tuple #[]) ∧ CK K T' ua' uc' ((ofF K.g (namedF K.g st (kids[0]'hlt)) (kids[0]'hlt).name).2) w' ∧ CStep K T T' w w' := by
 subst htx;have d1 : ¬ ((kids.length : Int) < (c1 : Int)) := by omega
 have d2 : decide (kids.length < c1) = false := by simp; omega
 have d3 : ¬ ((c2 : Int) < (kids.length : Int)) := by omega
 have d4 : decide (c2 < kids.length) = false := by simp; omega
 have HKD := zh hkd;clear hkd hn hm;have d5 : ((kids.length : Int) == 1) = true := by simp [h1]
 have d6 : (0 : Int) < (kids.length : Int) := by omega
 have q4 : (kids[0].kind == 4) = true := by simp [h4]
 clear h1 h4;have HC0 := zh h; have HS0 := zh (CStep.refl K T w);clear h
 go_enter Tryz.func77, Tryz.ntmps77
 obtain ⟨l_c, l_mf, l_ms, l_mn⟩ := HC0.out.lt
 go_wp2_with fail
 refine calls_at (fun W => Keeps [] w W ∧ W.heap[w.heap.size]? = some (.cells #[.int .i64 kd, .string ⟨#[108, 101, 110, 103, 116, 104]⟩, .float .f64 fm, .slice na kids.length nc, .complex .f64 re im] 50 (0, 0))) ⟨zg, zb⟩ ?_;rintro w1 ⟨Kw1, cw1_B⟩;have ⟨n_c_B, n_B_c⟩ := zne l_c;have ⟨n_mf_B, n_B_mf⟩ := zne l_mf;have ⟨n_ms_B, n_B_ms⟩ := zne l_ms;have ⟨n_mn_B, n_B_mn⟩ := zne l_mn;have o_B : w.heap.size ≤ w.heap.size := Nat.le_refl _;have off_B : Off K T (w.heap.size) := off_new HC0.out (Nat.le_refl _);have o0_B : K.w0.heap.size ≤ w.heap.size := Nat.le_trans HC0.out.keep.size (Nat.le_refl _);have HCw1 := zh (HC0.out.kp0 Kw1);have HSw1 := zh (HS0.out.loc Kw1 jg);have Rw1_B := zh cw1_B;clear Kw1 cw1_B l_c l_mf l_ms l_mn HC0 HS0;refine (counts_at hcn _).mono ?_;rintro r w' ⟨rfl, hw'⟩;rw [hw'];clear hw';obtain ⟨l_c, l_mf, l_ms, l_mn⟩ := HCw1.out.lt;obtain ⟨l_B, xB_0, xB_1, xB_2, xB_3, xB_4, yB_0, yB_1, yB_2, yB_3, yB_4⟩ := cf5 Rw1_B.out
 go_upto_block 0 with fail
 clear l_c l_B xB_0 xB_1 xB_2 xB_3 xB_4 yB_0 yB_1 yB_2 yB_3 yB_4 l_mf l_ms l_mn;obtain ⟨g3, o3, fm3, na3, nc3, hna3, kc30, kc31, kc32, kc33, kc34, hkn3⟩ := CK.kid HCw1.out HKD.out hlt;subst hna3;have lg3 := lt_cell kc30;simp only [Nat.zero_mul, Nat.add_zero] at kc30 kc31 kc32 kc33 kc34;obtain ⟨l_c, l_mf, l_ms, l_mn⟩ := HCw1.out.lt;obtain ⟨l_B, xB_0, xB_1, xB_2, xB_3, xB_4, yB_0, yB_1, yB_2, yB_3, yB_4⟩ := cf5 Rw1_B.out
 go_wp2_with fail
 clear l_c l_B xB_0 xB_1 xB_2 xB_3 xB_4 yB_0 yB_1 yB_2 yB_3 yB_4 l_mf l_ms l_mn;refine (named_any hK HCw1.out hkn3).mono ?_;rintro r e21 ⟨T21, ua21, uc21, rfl, hc, hs⟩;have off2_B := hs.off (h_lt Rw1_B.out) off_B;have Re21_B := zh (hs.at Rw1_B.out off_B);have off_B' := off2_B;have HCe21 := zh hc;have HSe21 := zh (HSw1.out.trans hs);clear Rw1_B off_B HCw1 HSw1 hc hs;have off_B := off_B';clear off_B' off2_B;obtain ⟨l_c, l_mf, l_ms, l_mn⟩ := HCe21.out.lt;obtain ⟨l_B, xB_0, xB_1, xB_2, xB_3, xB_4, yB_0, yB_1, yB_2, yB_3, yB_4⟩ := cf5 Re21_B.out;clear kc30 kc31 kc32 kc33 kc34 lg3;have HK2 := zh (CK.kid HCe21.out HKD.out hlt);obtain ⟨g4, o4, fm4, na4, nc4, hna4, kc40, kc41, kc42, kc43, kc44, hkn4⟩ := HK2.out;have lg4 := lt_cell kc40;injection hna4 with e1
 injection e1 with e2 e3 e4
 subst e2;subst e3;clear e4;simp only [Nat.zero_mul, Nat.add_zero] at kc41
 go_wp2_with fail
 clear l_c l_B xB_0 xB_1 xB_2 xB_3 xB_4 yB_0 yB_1 yB_2 yB_3 yB_4 l_mf l_ms l_mn;refine (of_c hK HCe21.out kids[0].name).mono ?_;rintro r e22 ⟨T22, ua22, uc22, rfl, hc, hs⟩;have off2_B := hs.off (h_lt Re21_B.out) off_B;have Re22_B := zh (hs.at Re21_B.out off_B);have off_B' := off2_B;have HCe22 := zh hc;have HSe22 := zh (HSe21.out.trans hs);clear Re21_B off_B HCe21 HSe21 hc hs;have off_B := off_B';clear off_B' off2_B;obtain ⟨l_c, l_mf, l_ms, l_mn⟩ := HCe22.out.lt;have l_B := h_lt Re22_B.out
 go_wp2_with fail
 refine ret_at (v := .tuple #[]) (fun W => Keeps [] e22 W) zg (fun w23 hW => ?_) rfl (fun w23 hW => ?_)
 ·have Kw23 : Keeps [] e22 w23 := hW;exact jnb
 have Kw23 : Keeps [] e22 w23 := hW;have Rw23_B := zh (Kw23.at Re22_B.out jg);have HCw23 := zh (HCe22.out.kp0 Kw23);have HSw23 := zh (HSe22.out.loc Kw23 jg);clear Kw23 l_c l_B l_mf l_ms l_mn Re22_B HCe22 HSe22;exact ⟨_, _, _, rfl, HCw23.out, HSw23.out⟩
theorem node_wf {K : CKey} (hK : CFix K) {T : Nat → Prop} {ua : Option Addr} {uc : Nat} {st : NS} {w : World} (h : CK K T ua uc st w) (kd : Int) (tx : ByteArray) (fm : Nat) (na : Option Addr) (nc re im : Nat) (kids : List Node) {rec : NRec} {st' : NS} (hkk : kd = 32 ∨ kd = 33) (hl0 : 0 ≤ st.loops) (hl1 : st.loops ≤ 900000) (hkl : kids.length ≤ 1000000) (hkd : KidsR K.w0 (fun _ => True) kids (.slice na kids.length nc)) (hrec : NodeC K rec) (hcf : kidsW rec false 0 kids { st with loops := st.loops + 1 } = some st') (hl2 : 0 ≤ st'.loops) (hl3 : st'.loops ≤ 900001) : Calls Tryz.prog 43 #[.pointer (some ⟨K.c, 0, none⟩), .agg #[.int .i64 kd, .string tx, .float .f64 fm, .slice na kids.length nc, .complex .f64 re im]] w fun r w' => ∃ T' ua' uc', r = .returned (.tuple #[]) ∧ CK K T' ua' uc' ({ st' with loops := st'.loops - 1 }) w' ∧ CStep K T T' w w' := by
 have hlob : -1000000 ≤ st.loops + 1 ∧ st.loops + 1 ≤ 1000000 := by omega
 have hb : (kd == 32) = true ∨ ((kd == 32) = false ∧ (kd == 33) = true) := by rcases hkk with rfl | rfl <;> simp
 have e4 : (kd == 4) = false := beq_false_of_ne qg;have e5 : (kd == 5) = false := beq_false_of_ne qg;have e11 : (kd == 11) = false := beq_false_of_ne qg;have e41 : (kd == 41) = false := beq_false_of_ne qg;have e35 : (kd == 35) = false := beq_false_of_ne qg;have e19 : (kd == 19) = false := beq_false_of_ne qg;have e20 : (kd == 20) = false := beq_false_of_ne qg;have e38 : (kd == 38) = false := beq_false_of_ne qg;have e40 : (kd == 40) = false := beq_false_of_ne qg;have e36 : (kd == 36) = false := beq_false_of_ne qg;have e37 : (kd == 37) = false := beq_false_of_ne qg;have e34 : (kd == 34) = false := beq_false_of_ne qg;have HKD := zh hkd; have HREC := zh hrec; have HCF := zh hcf;clear hkd hkk hrec hcf;have HC0 := zh h; have HS0 := zh (CStep.refl K T w);clear h
 rcases hb with e32 | ⟨e32, e33⟩
 all_goals
  go_enter_defers Tryz.func43, Tryz.ntmps43
  obtain ⟨l_c, xc_0, xc_1, xc_2, xc_3, xc_4, xc_5, xc_6, xc_7, xc_8, xc_9, xc_10, yc_0, yc_1, yc_2, yc_3, yc_4, yc_5, yc_6, yc_7, yc_8, yc_9, yc_10⟩ := cf11 HC0.out.row;obtain ⟨-, l_mf, l_ms, l_mn⟩ := HC0.out.lt
  go_wp2_with fail
  refine qtc ?_;rintro w1 ⟨Kw1, cw1_c, cw1_B⟩;have ⟨n_c_B, n_B_c⟩ := zne l_c;have ⟨n_mf_B, n_B_mf⟩ := zne l_mf;have ⟨n_ms_B, n_B_ms⟩ := zne l_ms;have ⟨n_mn_B, n_B_mn⟩ := zne l_mn;have o_B : w.heap.size ≤ w.heap.size := Nat.le_refl _;have off_B : Off K T (w.heap.size) := off_new HC0.out (Nat.le_refl _);have o0_B : K.w0.heap.size ≤ w.heap.size := Nat.le_trans HC0.out.keep.size (Nat.le_refl _);have HCw1 : Hid (CK K T ua uc ({ st with loops := st.loops + 1 }) w1) := zh (HC0.out.upd hK Kw1 cw1_c jg jg jg jg jg rfl rfl rfl HC0.out.fn hlob);have HSw1 := zh (HS0.out.loc Kw1 qeb);have Rw1_B := zh cw1_B;clear Kw1 cw1_c cw1_B l_c xc_0 xc_1 xc_2 xc_3 xc_4 xc_5 xc_6 xc_7 xc_8 xc_9 xc_10 yc_0 yc_1 yc_2 yc_3 yc_4 yc_5 yc_6 yc_7 yc_8 yc_9 yc_10 l_mf l_ms l_mn HC0 HS0
  go_loopg [144] (kids.length + 1) (fun g j wr => LoopW K rec false kids st' T w (w.heap.size) (.cells #[.int .i64 kd, .string tx, .float .f64 fm, .slice na kids.length nc, .complex .f64 re im] 50 (0, 0)) g j wr)
  case atStart => exact zuc
  exact jmd
theorem node_wt {K : CKey} (hK : CFix K) {T : Nat → Prop} {ua : Option Addr} {uc : Nat} {st : NS} {w : World} (h : CK K T ua uc st w) (kd : Int) (tx : ByteArray) (fm : Nat) (na : Option Addr) (nc re im : Nat) (kids : List Node) {rec : NRec} {st' : NS} (hkk : kd = 34) (hl0 : 0 ≤ st.loops) (hl1 : st.loops ≤ 900000) (hkl : kids.length ≤ 1000000) (hkd : KidsR K.w0 (fun _ => True) kids (.slice na kids.length nc)) (hrec : NodeC K rec) (hcf : kidsW rec true 0 kids { st with loops := st.loops + 1 } = some st') (hl2 : 0 ≤ st'.loops) (hl3 : st'.loops ≤ 900001) : Calls Tryz.prog 43 #[.pointer (some ⟨K.c, 0, none⟩), .agg #[.int .i64 kd, .string tx, .float .f64 fm, .slice na kids.length nc, .complex .f64 re im]] w fun r w' => ∃ T' ua' uc', r = .returned (.tuple #[]) ∧ CK K T' ua' uc' ({ st' with loops := st'.loops - 1 }) w' ∧ CStep K T T' w w' := by
 have hlob : -1000000 ≤ st.loops + 1 ∧ st.loops + 1 ≤ 1000000 := by omega
 have e34 : (kd == 34) = true := by simp [hkk]
 have e4 : (kd == 4) = false := beq_false_of_ne qg;have e5 : (kd == 5) = false := beq_false_of_ne qg;have e11 : (kd == 11) = false := beq_false_of_ne qg;have e41 : (kd == 41) = false := beq_false_of_ne qg;have e35 : (kd == 35) = false := beq_false_of_ne qg;have e19 : (kd == 19) = false := beq_false_of_ne qg;have e20 : (kd == 20) = false := beq_false_of_ne qg;have e38 : (kd == 38) = false := beq_false_of_ne qg;have e40 : (kd == 40) = false := beq_false_of_ne qg;have e36 : (kd == 36) = false := beq_false_of_ne qg;have e37 : (kd == 37) = false := beq_false_of_ne qg;have e32 : (kd == 32) = false := beq_false_of_ne qg;have e33 : (kd == 33) = false := beq_false_of_ne qg;have HKD := zh hkd; have HREC := zh hrec; have HCF := zh hcf;clear hkd hkk hrec hcf;have HC0 := zh h; have HS0 := zh (CStep.refl K T w);clear h
 go_enter_defers Tryz.func43, Tryz.ntmps43
 obtain ⟨l_c, xc_0, xc_1, xc_2, xc_3, xc_4, xc_5, xc_6, xc_7, xc_8, xc_9, xc_10, yc_0, yc_1, yc_2, yc_3, yc_4, yc_5, yc_6, yc_7, yc_8, yc_9, yc_10⟩ := cf11 HC0.out.row;obtain ⟨-, l_mf, l_ms, l_mn⟩ := HC0.out.lt
 go_wp2_with fail
 refine qtc ?_;rintro w1 ⟨Kw1, cw1_c, cw1_B⟩;have ⟨n_c_B, n_B_c⟩ := zne l_c;have ⟨n_mf_B, n_B_mf⟩ := zne l_mf;have ⟨n_ms_B, n_B_ms⟩ := zne l_ms;have ⟨n_mn_B, n_B_mn⟩ := zne l_mn;have o_B : w.heap.size ≤ w.heap.size := Nat.le_refl _;have off_B : Off K T (w.heap.size) := off_new HC0.out (Nat.le_refl _);have o0_B : K.w0.heap.size ≤ w.heap.size := Nat.le_trans HC0.out.keep.size (Nat.le_refl _);have HCw1 : Hid (CK K T ua uc ({ st with loops := st.loops + 1 }) w1) := zh (HC0.out.upd hK Kw1 cw1_c jg jg jg jg jg rfl rfl rfl HC0.out.fn hlob);have HSw1 := zh (HS0.out.loc Kw1 qeb);have Rw1_B := zh cw1_B;clear Kw1 cw1_c cw1_B l_c xc_0 xc_1 xc_2 xc_3 xc_4 xc_5 xc_6 xc_7 xc_8 xc_9 xc_10 yc_0 yc_1 yc_2 yc_3 yc_4 yc_5 yc_6 yc_7 yc_8 yc_9 yc_10 l_mf l_ms l_mn HC0 HS0
 go_loopg [144] (kids.length + 1) (fun g j wr => LoopW K rec true kids st' T w (w.heap.size) (.cells #[.int .i64 kd, .string tx, .float .f64 fm, .slice na kids.length nc, .complex .f64 re im] 50 (0, 0)) g j wr)
 case atStart => exact zuc
 obtain ⟨k, rfl, hk1, hk2, st2, T2, ua2, uc2, hcf, hc, hs, hB, off_B⟩ := hrel;have HCr := zh hc; have HSr := zh hs; have RB := zh hB;clear hc hs hB
 by_cases hlt : k < kids.length
 ·obtain ⟨g3, o3, fm3, na3, nc3, hna, kc0, kc1, kc2, kc3, kc4, hkn⟩ := CK.kid HCr.out HKD.out hlt;subst hna;have lg3 : g3 < wr.heap.size := lt_cell kc0;rw [List.drop_eq_getElem_cons hlt, kidsW] at hcf;generalize kids[k] = kk at *
  simp only [Option.bind_eq_bind, Option.bind_eq_some_iff] at hcf;obtain ⟨s3, hr, hcf⟩ := hcf
  cases gk with
  | zero => omega
  | succ f =>
   by_cases hx : true = true ∧ k % 2 = 0 ∧ (kk.kind = 36 ∨ kk.kind = 37)
   ·rw [forF, if_pos hx] at hr;have d2 : (k : Int) % 2 = 0 := by omega
    rcases hx.2.2 with hk | hk
    ·rw [hk] at kc0 hkn;clear hk hx;obtain ⟨l_c, l_mf, l_ms, l_mn⟩ := HCr.out.lt;obtain ⟨l_B, xB_0, xB_1, xB_2, xB_3, xB_4, yB_0, yB_1, yB_2, yB_3, yB_4⟩ := cf5 RB.out
     go_wp2_with fail
     refine calls_at (fun W => Keeps [] wr W ∧ W.heap[wr.heap.size]? = some (.cells #[.int .i64 36, .string kk.name, .float .f64 fm3, .slice na3 kk.kids.length nc3, .complex .f64 kk.re kk.im] 50 (0, 0))) ⟨zg, zb⟩ ?_;exact qcd
    rw [hk] at kc0 hkn;clear hk hx;obtain ⟨l_c, l_mf, l_ms, l_mn⟩ := HCr.out.lt;obtain ⟨l_B, xB_0, xB_1, xB_2, xB_3, xB_4, yB_0, yB_1, yB_2, yB_3, yB_4⟩ := cf5 RB.out
    go_wp2_with fail
    refine calls_at (fun W => Keeps [] wr W ∧ W.heap[wr.heap.size]? = some (.cells #[.int .i64 37, .string kk.name, .float .f64 fm3, .slice na3 kk.kids.length nc3, .complex .f64 kk.re kk.im] 50 (0, 0))) ⟨zg, zb⟩ ?_;exact qcd
   rw [forF, if_neg hx] at hr
   have dk : (¬ (k : Int) % 2 = 0) ∨ ((k : Int) % 2 = 0 ∧ (kk.kind == 36) = false ∧ (kk.kind == 37) = false ∧ ¬ kk.kind = 36 ∧ ¬ kk.kind = 37) := by
    by_cases h2 : k % 2 = 0
    ·have h36 : ¬ kk.kind = 36 := fun h => hx ⟨rfl, h2, .inl h⟩
     have h37 : ¬ kk.kind = 37 := fun h => hx ⟨rfl, h2, .inr h⟩
     exact .inr ⟨by omega, beq_false_of_ne h36, beq_false_of_ne h37, h36, h37⟩
    exact .inl qg
   clear hx
   rcases dk with dk | ⟨dk, dk1, dk2, dk3, dk4⟩
   all_goals
    obtain ⟨l_c, l_mf, l_ms, l_mn⟩ := HCr.out.lt;obtain ⟨l_B, xB_0, xB_1, xB_2, xB_3, xB_4, yB_0, yB_1, yB_2, yB_3, yB_4⟩ := cf5 RB.out
    go_wp2_with fail
    refine qlc ?_;rintro w51 ⟨Kw51, cw51_Kd⟩;have ⟨n_c_Kd, n_Kd_c⟩ := zne l_c;have ⟨n_mf_Kd, n_Kd_mf⟩ := zne l_mf;have ⟨n_ms_Kd, n_Kd_ms⟩ := zne l_ms;have ⟨n_mn_Kd, n_Kd_mn⟩ := zne l_mn;have ⟨n_B_Kd, n_Kd_B⟩ := zne l_B;have o_Kd : w.heap.size ≤ wr.heap.size := HSr.out.size;have off_Kd : Off K T2 (wr.heap.size) := off_new HCr.out (Nat.le_refl _);have o0_Kd : K.w0.heap.size ≤ wr.heap.size := Nat.le_trans HCr.out.keep.size (Nat.le_refl _);have Rw51_B := zh (Kw51.at RB.out jg);have HCw51 := zh (HCr.out.kp0 Kw51);have HSw51 := zh (HSr.out.loc Kw51 jg);have Rw51_Kd := zh cw51_Kd;clear Kw51 cw51_Kd l_c l_B xB_0 xB_1 xB_2 xB_3 xB_4 yB_0 yB_1 yB_2 yB_3 yB_4 l_mf l_ms l_mn RB HCr HSr;refine jtc ?_;rintro r e52 ⟨T52, ua52, uc52, rfl, hc, hs⟩;have off2_B := hs.off (h_lt Rw51_B.out) off_B;have Re52_B := zh (hs.at Rw51_B.out off_B);have off2_Kd := hs.off (h_lt Rw51_Kd.out) off_Kd;have Re52_Kd := zh (hs.at Rw51_Kd.out off_Kd);have off_B' := off2_B;have off_Kd' := off2_Kd;have HCe52 := zh hc;have HSe52 := zh (HSw51.out.trans hs);clear Rw51_B off_B Rw51_Kd off_Kd HCw51 HSw51 hc hs;have off_B := off_B';clear off_B' off2_B;have off_Kd := off_Kd';clear off_Kd' off2_Kd;obtain ⟨l_c, l_mf, l_ms, l_mn⟩ := HCe52.out.lt;have l_B := h_lt Re52_B.out;have l_Kd := h_lt Re52_Kd.out
    go_wp2_with fail
    go_roundg f
    case measure => omega
    exact juc
 have hke : k = kids.length := by omega
 exact jed
theorem node_vw {K : CKey} (hK : CFix K) {T : Nat → Prop} {ua : Option Addr} {uc : Nat} {st : NS} {w : World} (h : CK K T ua uc st w) (kd : Int) (tx : ByteArray) (fm : Nat) (na : Option Addr) (nc re im : Nat) (kids : List Node) {rec : NRec} {st1 st' : NS} (h4 : kd = 4) (h19 : kd ≠ 19) (h20 : kd ≠ 20) (h11 : kd ≠ 11) (h41 : kd ≠ 41) (h32 : kd ≠ 32) (h33 : kd ≠ 33) (h34 : kd ≠ 34) (h35 : kd ≠ 35) (hkl : kids.length ≤ 1000000) (hkd : KidsR K.w0 (fun _ => True) kids (.slice na kids.length nc)) (hrec : NodeC K rec) (hpre : preW K.g st (.mk kd tx fm kids re im) = some st1) (hcf : kidsF rec kids st1 = some st') : Calls Tryz.prog 43 #[.pointer (some ⟨K.c, 0, none⟩), .agg #[.int .i64 kd, .string tx, .float .f64 fm, .slice na kids.length nc, .complex .f64 re im]] w fun r w' => ∃ T' ua' uc', r = .returned (.tuple #[]) ∧ CK K T' ua' uc' (st') w' ∧ CStep K T T' w w' := by
 have e19 : (kd == 19) = false := beq_false_of_ne h19;have f19 : (kd != 19) = true := by simp [h19]
 have e20 : (kd == 20) = false := beq_false_of_ne h20;have f20 : (kd != 20) = true := by simp [h20]
 have e11 : (kd == 11) = false := beq_false_of_ne h11;have f11 : (kd != 11) = true := by simp [h11]
 have e41 : (kd == 41) = false := beq_false_of_ne h41;have f41 : (kd != 41) = true := by simp [h41]
 have e32 : (kd == 32) = false := beq_false_of_ne h32;have f32 : (kd != 32) = true := by simp [h32]
 have e33 : (kd == 33) = false := beq_false_of_ne h33;have f33 : (kd != 33) = true := by simp [h33]
 have e34 : (kd == 34) = false := beq_false_of_ne h34;have f34 : (kd != 34) = true := by simp [h34]
 have e35 : (kd == 35) = false := beq_false_of_ne h35;have f35 : (kd != 35) = true := by simp [h35]
 have HKD := zh hkd; have HREC := zh hrec; have HCF := zh hcf;have HNR : Hid (NodeR K.w0 (fun _ => True) (.mk kd tx fm kids re im) (.agg #[.int .i64 kd, .string tx, .float .f64 fm, .slice na kids.length nc, .complex .f64 re im])) := zh (.mk hkd);clear hkd hrec hcf h19 h20 h11 h41 h32 h33 h34 h35;have HC0 := zh h; have HS0 := zh (CStep.refl K T w);clear h;have H4 := zh h4;clear h4
 go_enter Tryz.func43, Tryz.ntmps43
 obtain ⟨l_c, l_mf, l_ms, l_mn⟩ := HC0.out.lt
 go_upto_block 0 with fail
 refine zrc ?_;rintro w1 ⟨Kw1, cw1_B⟩;have ⟨n_c_B, n_B_c⟩ := zne l_c;have ⟨n_mf_B, n_B_mf⟩ := zne l_mf;have ⟨n_ms_B, n_B_ms⟩ := zne l_ms;have ⟨n_mn_B, n_B_mn⟩ := zne l_mn;have o_B : w.heap.size ≤ w.heap.size := Nat.le_refl _;have off_B : Off K T (w.heap.size) := off_new HC0.out (Nat.le_refl _);have o0_B : K.w0.heap.size ≤ w.heap.size := Nat.le_trans HC0.out.keep.size (Nat.le_refl _);have HCw1 := zh (HC0.out.kp0 Kw1);have HSw1 := zh (HS0.out.loc Kw1 jg);have Rw1_B := zh cw1_B;clear Kw1 cw1_B l_c l_mf l_ms l_mn HC0 HS0
 go_cut [] (fun W => ∃ T' ua' uc', CK K T' ua' uc' st1 W ∧ CStep K T T' w W ∧ W.heap[w.heap.size]? = some (.cells #[.int .i64 kd, .string tx, .float .f64 fm, .slice na kids.length nc, .complex .f64 re im] 50 (0, 0)) ∧ Off K T' (w.heap.size))
 case first =>
  clear HKD HREC HCF;have h4 := H4.out;subst h4;rw [preW_mk, if_pos rfl] at hpre;obtain ⟨l_c, l_mf, l_ms, l_mn⟩ := HCw1.out.lt;obtain ⟨l_B, xB_0, xB_1, xB_2, xB_3, xB_4, yB_0, yB_1, yB_2, yB_3, yB_4⟩ := cf5 Rw1_B.out
  go_wp2_with fail
  clear l_c l_B xB_0 xB_1 xB_2 xB_3 xB_4 yB_0 yB_1 yB_2 yB_3 yB_4 l_mf l_ms l_mn;refine jvc ?_;rintro r e21 ⟨T21, ua21, uc21, rfl, hc, hs⟩;have off2_B := hs.off (h_lt Rw1_B.out) off_B;have Re21_B := zh (hs.at Rw1_B.out off_B);have off_B' := off2_B;have HCe21 := zh hc;have HSe21 := zh (HSw1.out.trans hs);clear Rw1_B off_B HCw1 HSw1 hc hs;have off_B := off_B';clear off_B' off2_B;obtain ⟨l_c, xc_0, xc_1, xc_2, xc_3, xc_4, xc_5, xc_6, xc_7, xc_8, xc_9, xc_10, yc_0, yc_1, yc_2, yc_3, yc_4, yc_5, yc_6, yc_7, yc_8, yc_9, yc_10⟩ := cf11 HCe21.out.row;obtain ⟨-, l_mf, l_ms, l_mn⟩ := HCe21.out.lt;obtain ⟨l_B, xB_0, xB_1, xB_2, xB_3, xB_4, yB_0, yB_1, yB_2, yB_3, yB_4⟩ := cf5 Re21_B.out;obtain ⟨oo, hoo⟩ : ∃ x, x = ofF K.g (namedF K.g st (Node.mk 4 tx fm kids re im)) tx := ⟨_, rfl⟩;rw [← hoo] at hpre;obtain ⟨hul, rfl⟩ := useF_some hpre;have HUL := zh hul; have HOO := zh hoo;clear hul hoo hpre
  go_upto_region 4 with fail
  obtain ⟨i1, hi1, hi2, hi3, hi4⟩ := info106;have HI := zh (And.intro hi1 (And.intro hi2 (And.intro hi3 hi4)));clear hi1 hi2 hi3 hi4;have HOF := zh (of_at hK HCe21.out tx);rw [← HOO.out] at HOF;have hul0 : (namedF K.g st (Node.mk 4 tx fm kids re im)).uses.length = (oo).2.uses.length := by rw [HOO.out, ofF_uses]
  try clear hcf
  try clear kc0
  try clear kc1
  try clear kc2
  try clear kc3
  try clear kc4
  try clear hcs
  try clear hcp
  try clear hlk
  try clear HREC
  try clear HKD
  try clear HSP
  try clear HFA
  try clear HFN
  try clear HFI
  try clear HCF
  try clear hkn
  try clear hm
  try clear hkl
  try clear hlt
  try clear hlt2
  try clear lg2
  try clear lg3
  try clear e4
  try clear e5
  try clear hk1
  try clear hi
  try clear o0_B
  try clear o_B
  try clear n_c_B
  try clear n_mf_B
  try clear n_ms_B
  try clear n_mn_B
  try clear n_B_c
  try clear n_B_mf
  try clear n_B_ms
  try clear n_B_mn
  try clear e19
  try clear e20
  try clear e11
  try clear e41
  try clear e32
  try clear e33
  try clear e34
  try clear e35
  try clear e4
  try clear e5
  try clear f19
  try clear f20
  try clear f11
  try clear f41
  try clear f32
  try clear f33
  try clear f34
  try clear f35
  try clear f4
  try clear f5
  try clear HNR
  go_region_law (first | ((fail_if_success (have hm9 := hcu)); refine step_call (f := 75) (vals := #[.pointer (some ⟨K.c, 0, none⟩), .string tx]) rfl _ rfl jh (HOF.out _ zg) ?_; rintro v u_ ⟨rfl, hcu, hsu⟩; have l_c2 := h_lt hcu.row; have q0 := cell_of_heap hcu.row 0; have q1 := cell_of_heap hcu.row 1; have q2 := cell_of_heap hcu.row 2; have q3 := cell_of_heap hcu.row 3; have q4 := cell_of_heap hcu.row 4; have q5 := cell_of_heap hcu.row 5; have q6 := cell_of_heap hcu.row 6; have q7 := cell_of_heap hcu.row 7; have q8 := cell_of_heap hcu.row 8; have q9 := cell_of_heap hcu.row 9; have q10 := cell_of_heap hcu.row 10; simp at q0 q1 q2 q3 q4 q5 q6 q7 q8 q9 q10; have r_B := hsu.at Re21_B.out off_B; have lr_B := h_lt r_B; have zB_0 := cell_of_heap r_B 0; have zB_1 := cell_of_heap r_B 1; have zB_2 := cell_of_heap r_B 2; have zB_3 := cell_of_heap r_B 3; have zB_4 := cell_of_heap r_B 4; simp at zB_0 zB_1 zB_2 zB_3 zB_4) | (refine step_at (fun W => Keeps [] u_ W ∧ W.heap[u_.heap.size]? = some (.cells #[.complex .f64 re im, .int .i64 oo.1.1, .string oo.1.2, .bool false, .int .i64 0, .string ⟨#[]⟩, .bool false, .bool false] 106 (0, 0))) ⟨zg, jd⟩ ?_; rintro wq ⟨hkq, cG⟩; refine step_appL useL rfl (.tmp 17) (.tmp 25) 68 rfl Tryz.underlying68 HI.out.1 HI.out.2.1 HI.out.2.2.1 HI.out.2.2.2 rfl zi zi rfl rfl (hcu.kp0 hkq).uses (c := [.complex .f64 re im, .int .i64 oo.1.1, .string oo.1.2, .bool false, .int .i64 0, .string ⟨#[]⟩, .bool false, .bool false]) cG (x := (⟨re, im, oo.1, false, noT, false, false⟩ : Use)) (S := fun _ => False) rfl (fun _ h => h.elim) (fun _ h => h.elim) (hcu.kp0 hkq).up (hcu.kp0 hkq).keep.size (Nat.le_of_lt HUL.out) ?_; rintro va wa fl hfl hka hown; obtain ⟨ka2, kc2, hva, -⟩ := hown.slice; obtain ⟨kn, hkn⟩ : ∃ k, k = ((oo.2).uses ++ [(⟨re, im, oo.1, false, noT, false, false⟩ : Use)]).length := ⟨_, rfl⟩; rw [← hkn] at hva; subst hva; have HKN := zh hkn; clear hkn; have r_c := hka.at (hcu.kp0 hkq).row (fun h => (hcu.kp0 hkq).ns.1 (hfl _ h)); have lw_c := h_lt r_c; have z0 := cell_of_heap r_c 0; have z1 := cell_of_heap r_c 1; have z2 := cell_of_heap r_c 2; have z3 := cell_of_heap r_c 3; have z4 := cell_of_heap r_c 4; have z5 := cell_of_heap r_c 5; have z6 := cell_of_heap r_c 6; have z7 := cell_of_heap r_c 7; have z8 := cell_of_heap r_c 8; have z9 := cell_of_heap r_c 9; have z10 := cell_of_heap r_c 10; have zf0 := frozen_of_heap r_c 0; have zf1 := frozen_of_heap r_c 1; have zf2 := frozen_of_heap r_c 2; have zf3 := frozen_of_heap r_c 3; have zf4 := frozen_of_heap r_c 4; have zf5 := frozen_of_heap r_c 5; have zf6 := frozen_of_heap r_c 6; have zf7 := frozen_of_heap r_c 7; have zf8 := frozen_of_heap r_c 8; have zf9 := frozen_of_heap r_c 9; have zf10 := frozen_of_heap r_c 10; simp at z0 z1 z2 z3 z4 z5 z6 z7 z8 z9 z10))
  all_goals
   go_wp2_with fail
   go_meet
   have hkn := HKN.out;subst hkn;exact qvc
 exact zed
theorem node_ow {K : CKey} (hK : CFix K) {T : Nat → Prop} {ua : Option Addr} {uc : Nat} {st : NS} {w : World} (h : CK K T ua uc st w) (kd : Int) (tx : ByteArray) (fm : Nat) (na : Option Addr) (nc re im : Nat) (kids : List Node) {rec : NRec} {st1 st' : NS} (h4 : kd ≠ 4) (h5 : kd ≠ 5) (h19 : kd ≠ 19) (h20 : kd ≠ 20) (h11 : kd ≠ 11) (h41 : kd ≠ 41) (h32 : kd ≠ 32) (h33 : kd ≠ 33) (h34 : kd ≠ 34) (h35 : kd ≠ 35) (hkl : kids.length ≤ 1000000) (hkd : KidsR K.w0 (fun _ => True) kids (.slice na kids.length nc)) (hrec : NodeC K rec) (hpre : preW K.g st (.mk kd tx fm kids re im) = some st1) (hcf : kidsF rec kids st1 = some st') : Calls Tryz.prog 43 #[.pointer (some ⟨K.c, 0, none⟩), .agg #[.int .i64 kd, .string tx, .float .f64 fm, .slice na kids.length nc, .complex .f64 re im]] w fun r w' => ∃ T' ua' uc', r = .returned (.tuple #[]) ∧ CK K T' ua' uc' (st') w' ∧ CStep K T T' w w' := by
 have e19 : (kd == 19) = false := beq_false_of_ne h19;have f19 : (kd != 19) = true := by simp [h19]
 have e20 : (kd == 20) = false := beq_false_of_ne h20;have f20 : (kd != 20) = true := by simp [h20]
 have e11 : (kd == 11) = false := beq_false_of_ne h11;have f11 : (kd != 11) = true := by simp [h11]
 have e41 : (kd == 41) = false := beq_false_of_ne h41;have f41 : (kd != 41) = true := by simp [h41]
 have e32 : (kd == 32) = false := beq_false_of_ne h32;have f32 : (kd != 32) = true := by simp [h32]
 have e33 : (kd == 33) = false := beq_false_of_ne h33;have f33 : (kd != 33) = true := by simp [h33]
 have e34 : (kd == 34) = false := beq_false_of_ne h34;have f34 : (kd != 34) = true := by simp [h34]
 have e35 : (kd == 35) = false := beq_false_of_ne h35;have f35 : (kd != 35) = true := by simp [h35]
 have hno : ¬ (kd = 5 ∨ kd = 11 ∨ kd = 41 ∨ kd = 35) := by omega
 have HKD := zh hkd; have HREC := zh hrec; have HCF := zh hcf;have HNR : Hid (NodeR K.w0 (fun _ => True) (.mk kd tx fm kids re im) (.agg #[.int .i64 kd, .string tx, .float .f64 fm, .slice na kids.length nc, .complex .f64 re im])) := zh (.mk hkd);clear hkd hrec hcf h19 h20 h11 h41 h32 h33 h34 h35;have HC0 := zh h; have HS0 := zh (CStep.refl K T w);clear h
 go_enter Tryz.func43, Tryz.ntmps43
 obtain ⟨l_c, l_mf, l_ms, l_mn⟩ := HC0.out.lt
 go_upto_block 0 with fail
 refine zrc ?_;rintro w1 ⟨Kw1, cw1_B⟩;have ⟨n_c_B, n_B_c⟩ := zne l_c;have ⟨n_mf_B, n_B_mf⟩ := zne l_mf;have ⟨n_ms_B, n_B_ms⟩ := zne l_ms;have ⟨n_mn_B, n_B_mn⟩ := zne l_mn;have o_B : w.heap.size ≤ w.heap.size := Nat.le_refl _;have off_B : Off K T (w.heap.size) := off_new HC0.out (Nat.le_refl _);have o0_B : K.w0.heap.size ≤ w.heap.size := Nat.le_trans HC0.out.keep.size (Nat.le_refl _);have HCw1 := zh (HC0.out.kp0 Kw1);have HSw1 := zh (HS0.out.loc Kw1 jg);have Rw1_B := zh cw1_B;clear Kw1 cw1_B l_c l_mf l_ms l_mn HC0 HS0
 go_cut [] (fun W => ∃ T' ua' uc', CK K T' ua' uc' st1 W ∧ CStep K T T' w W ∧ W.heap[w.heap.size]? = some (.cells #[.int .i64 kd, .string tx, .float .f64 fm, .slice na kids.length nc, .complex .f64 re im] 50 (0, 0)) ∧ Off K T' (w.heap.size))
 case first =>
  clear HKD HREC HCF;rw [preW_mk, if_neg h4, if_neg hno] at hpre;have e4 : (kd == 4) = false := beq_false_of_ne h4;have f4 : (kd != 4) = true := by simp [h4]
  have e5 : (kd == 5) = false := beq_false_of_ne h5;have f5 : (kd != 5) = true := by simp [h5]
  by_cases h38 : kd = 38
  ·rw [if_pos h38] at hpre;subst h38
   by_cases hfn : 0 < st.fn
   ·rw [if_pos (.inl hfn)] at hpre;obtain rfl : faultF st re im 32 = st1 := by simpa using hpre
    have d0 : decide (0 < st.fn) = true := by simp [hfn]
    have d1 : (0 : Int) < (st.fn : Int) := by omega
    clear hpre;exact qad
   have hf0 : st.fn = 0 := by omega
   have d0 : decide (0 < st.fn) = false := by simp [hf0]
   by_cases h5 : st.rule = 5
   ·obtain rfl : st = st1 := by simpa [h5, hf0] using hpre
    have g5 : (st.rule == 5) = true := by simp [h5]
    have g5n : (st.rule != 5) = false := by simp [h5]
    clear hpre h5;exact zfd
   have g5 : (st.rule == 5) = false := beq_false_of_ne h5;have g5n : (st.rule != 5) = true := by simp [h5]
   by_cases h6 : st.rule = 6
   ·obtain rfl : st = st1 := by simpa [h6, hf0] using hpre
    have g6 : (st.rule == 6) = true := by simp [h6]
    have g6n : (st.rule != 6) = false := by simp [h6]
    clear hpre h6 h5;exact zfd
   have g6 : (st.rule == 6) = false := beq_false_of_ne h6;have g6n : (st.rule != 6) = true := by simp [h6]
   by_cases h7 : st.rule = 7
   ·obtain rfl : st = st1 := by simpa [h7, hf0] using hpre
    have g7 : (st.rule == 7) = true := by simp [h7]
    have g7n : (st.rule != 7) = false := by simp [h7]
    clear hpre h7 h6 h5;exact zfd
   have g7 : (st.rule == 7) = false := beq_false_of_ne h7;have g7n : (st.rule != 7) = true := by simp [h7]
   rw [if_pos (.inr ⟨h5, h6, h7⟩)] at hpre;obtain rfl : faultF st re im 32 = st1 := by simpa using hpre
   clear hpre h5 h6 h7;exact qad
  rw [if_neg h38] at hpre;have e38 : (kd == 38) = false := beq_false_of_ne h38;have f38 : (kd != 38) = true := by simp [h38]
  by_cases h40 : kd = 40
  ·rw [if_pos h40] at hpre;subst h40
   by_cases hfn : st.fn = 0
   ·rw [if_pos hfn] at hpre;obtain rfl : faultF st re im 32 = st1 := by simpa using hpre
    have d0 : ((st.fn : Int) == 0) = true := by simp [hfn]
    have d1 : (st.fn == 0) = true := by simp [hfn]
    clear hpre hfn;exact qad
   rw [if_neg hfn] at hpre;obtain rfl : st = st1 := by simpa using hpre
   have d0 : ((st.fn : Int) == 0) = false := by simp; omega
   have d1 : (st.fn == 0) = false := by simp [hfn]
   clear hpre;exact zfd
  rw [if_neg h40] at hpre;have e40 : (kd == 40) = false := beq_false_of_ne h40;have f40 : (kd != 40) = true := by simp [h40]
  by_cases h36 : kd = 36
  ·subst h36;rw [if_pos (.inl rfl)] at hpre;exact zqd
  by_cases h37 : kd = 37
  ·subst h37;rw [if_pos (.inr rfl)] at hpre;exact zqd
  rw [if_neg (by simp [h36, h37])] at hpre;obtain rfl : st = st1 := by simpa using hpre
  clear hpre;have e36 : (kd == 36) = false := beq_false_of_ne h36;have f36 : (kd != 36) = true := by simp [h36]
  have e37 : (kd == 37) = false := beq_false_of_ne h37;have f37 : (kd != 37) = true := by simp [h37]
  exact zfd
 exact zed
set_option maxHeartbeats 40000000 in
theorem node_x5 {K : CKey} (hK : CFix K) {T : Nat → Prop} {ua : Option Addr} {uc : Nat} {st : NS} {w : World} (h : CK K T ua uc st w) (kd : Int) (tx : ByteArray) (fm : Nat) (na : Option Addr) (nc re im : Nat) (kids : List Node) {rec : NRec} {st1 st' : NS} (h4 : kd ≠ 4) (h5 : kd = 5) (h19 : kd ≠ 19) (h20 : kd ≠ 20) (h32 : kd ≠ 32) (h33 : kd ≠ 33) (h34 : kd ≠ 34) (h35 : kd ≠ 35) (hkl : kids.length ≤ 1000000) (hkd : KidsR K.w0 (fun _ => True) kids (.slice na kids.length nc)) (hrec : NodeC K rec) (hpre : preW K.g st (.mk kd tx fm kids re im) = some st1) (hcf : kidsF rec kids st1 = some st') : Calls Tryz.prog 43 #[.pointer (some ⟨K.c, 0, none⟩), .agg #[.int .i64 kd, .string tx, .float .f64 fm, .slice na kids.length nc, .complex .f64 re im]] w fun r w' => ∃ T' ua' uc', r = .returned (.tuple #[]) ∧ CK K T' ua' uc' (st') w' ∧ CStep K T T' w w' := by
 have e4 : (kd == 4) = false := beq_false_of_ne h4;have f4 : (kd != 4) = true := by simp [h4]
 have e19 : (kd == 19) = false := beq_false_of_ne h19;have f19 : (kd != 19) = true := by simp [h19]
 have e20 : (kd == 20) = false := beq_false_of_ne h20;have f20 : (kd != 20) = true := by simp [h20]
 have e32 : (kd == 32) = false := beq_false_of_ne h32;have f32 : (kd != 32) = true := by simp [h32]
 have e33 : (kd == 33) = false := beq_false_of_ne h33;have f33 : (kd != 33) = true := by simp [h33]
 have e34 : (kd == 34) = false := beq_false_of_ne h34;have f34 : (kd != 34) = true := by simp [h34]
 have e35 : (kd == 35) = false := beq_false_of_ne h35;have f35 : (kd != 35) = true := by simp [h35]
 have HKD := zh hkd; have HREC := zh hrec; have HCF := zh hcf;have HNR : Hid (NodeR K.w0 (fun _ => True) (.mk kd tx fm kids re im) (.agg #[.int .i64 kd, .string tx, .float .f64 fm, .slice na kids.length nc, .complex .f64 re im])) := zh (.mk hkd);clear hkd hrec hcf h19 h20 h4 h32 h33 h34 h35;have HC0 := zh h; have HS0 := zh (CStep.refl K T w);clear h;have H5 := zh h5;clear h5
 go_enter Tryz.func43, Tryz.ntmps43
 obtain ⟨l_c, l_mf, l_ms, l_mn⟩ := HC0.out.lt
 go_upto_block 0 with fail
 exact jyc
set_option maxHeartbeats 40000000 in
theorem node_x11 {K : CKey} (hK : CFix K) {T : Nat → Prop} {ua : Option Addr} {uc : Nat} {st : NS} {w : World} (h : CK K T ua uc st w) (kd : Int) (tx : ByteArray) (fm : Nat) (na : Option Addr) (nc re im : Nat) (kids : List Node) {rec : NRec} {st1 st' : NS} (h4 : kd ≠ 4) (h5 : kd = 11) (h19 : kd ≠ 19) (h20 : kd ≠ 20) (h32 : kd ≠ 32) (h33 : kd ≠ 33) (h34 : kd ≠ 34) (h35 : kd ≠ 35) (hkl : kids.length ≤ 1000000) (hkd : KidsR K.w0 (fun _ => True) kids (.slice na kids.length nc)) (hrec : NodeC K rec) (hpre : preW K.g st (.mk kd tx fm kids re im) = some st1) (hcf : kidsF rec kids st1 = some st') : Calls Tryz.prog 43 #[.pointer (some ⟨K.c, 0, none⟩), .agg #[.int .i64 kd, .string tx, .float .f64 fm, .slice na kids.length nc, .complex .f64 re im]] w fun r w' => ∃ T' ua' uc', r = .returned (.tuple #[]) ∧ CK K T' ua' uc' (st') w' ∧ CStep K T T' w w' := by
 have e4 : (kd == 4) = false := beq_false_of_ne h4;have f4 : (kd != 4) = true := by simp [h4]
 have e19 : (kd == 19) = false := beq_false_of_ne h19;have f19 : (kd != 19) = true := by simp [h19]
 have e20 : (kd == 20) = false := beq_false_of_ne h20;have f20 : (kd != 20) = true := by simp [h20]
 have e32 : (kd == 32) = false := beq_false_of_ne h32;have f32 : (kd != 32) = true := by simp [h32]
 have e33 : (kd == 33) = false := beq_false_of_ne h33;have f33 : (kd != 33) = true := by simp [h33]
 have e34 : (kd == 34) = false := beq_false_of_ne h34;have f34 : (kd != 34) = true := by simp [h34]
 have e35 : (kd == 35) = false := beq_false_of_ne h35;have f35 : (kd != 35) = true := by simp [h35]
 have HKD := zh hkd; have HREC := zh hrec; have HCF := zh hcf;have HNR : Hid (NodeR K.w0 (fun _ => True) (.mk kd tx fm kids re im) (.agg #[.int .i64 kd, .string tx, .float .f64 fm, .slice na kids.length nc, .complex .f64 re im])) := zh (.mk hkd);clear hkd hrec hcf h19 h20 h4 h32 h33 h34 h35;have HC0 := zh h; have HS0 := zh (CStep.refl K T w);clear h;have H5 := zh h5;clear h5
 go_enter Tryz.func43, Tryz.ntmps43
 obtain ⟨l_c, l_mf, l_ms, l_mn⟩ := HC0.out.lt
 go_upto_block 0 with fail
 exact jyc
set_option maxHeartbeats 40000000 in
theorem node_x41 {K : CKey} (hK : CFix K) {T : Nat → Prop} {ua : Option Addr} {uc : Nat} {st : NS} {w : World} (h : CK K T ua uc st w) (kd : Int) (tx : ByteArray) (fm : Nat) (na : Option Addr) (nc re im : Nat) (kids : List Node) {rec : NRec} {st1 st' : NS} (h4 : kd ≠ 4) (h5 : kd = 41) (h19 : kd ≠ 19) (h20 : kd ≠ 20) (h32 : kd ≠ 32) (h33 : kd ≠ 33) (h34 : kd ≠ 34) (h35 : kd ≠ 35) (hkl : kids.length ≤ 1000000) (hkd : KidsR K.w0 (fun _ => True) kids (.slice na kids.length nc)) (hrec : NodeC K rec) (hpre : preW K.g st (.mk kd tx fm kids re im) = some st1) (hcf : kidsF rec kids st1 = some st') : Calls Tryz.prog 43 #[.pointer (some ⟨K.c, 0, none⟩), .agg #[.int .i64 kd, .string tx, .float .f64 fm, .slice na kids.length nc, .complex .f64 re im]] w fun r w' => ∃ T' ua' uc', r = .returned (.tuple #[]) ∧ CK K T' ua' uc' (st') w' ∧ CStep K T T' w w' := by
 have e4 : (kd == 4) = false := beq_false_of_ne h4;have f4 : (kd != 4) = true := by simp [h4]
 have e19 : (kd == 19) = false := beq_false_of_ne h19;have f19 : (kd != 19) = true := by simp [h19]
 have e20 : (kd == 20) = false := beq_false_of_ne h20;have f20 : (kd != 20) = true := by simp [h20]
 have e32 : (kd == 32) = false := beq_false_of_ne h32;have f32 : (kd != 32) = true := by simp [h32]
 have e33 : (kd == 33) = false := beq_false_of_ne h33;have f33 : (kd != 33) = true := by simp [h33]
 have e34 : (kd == 34) = false := beq_false_of_ne h34;have f34 : (kd != 34) = true := by simp [h34]
 have e35 : (kd == 35) = false := beq_false_of_ne h35;have f35 : (kd != 35) = true := by simp [h35]
 have HKD := zh hkd; have HREC := zh hrec; have HCF := zh hcf;have HNR : Hid (NodeR K.w0 (fun _ => True) (.mk kd tx fm kids re im) (.agg #[.int .i64 kd, .string tx, .float .f64 fm, .slice na kids.length nc, .complex .f64 re im])) := zh (.mk hkd);clear hkd hrec hcf h19 h20 h4 h32 h33 h34 h35;have HC0 := zh h; have HS0 := zh (CStep.refl K T w);clear h;have H5 := zh h5;clear h5
 go_enter Tryz.func43, Tryz.ntmps43
 obtain ⟨l_c, l_mf, l_ms, l_mn⟩ := HC0.out.lt
 go_upto_block 0 with fail
 exact jyc
theorem node_f {K : CKey} (hK : CFix K) {T : Nat → Prop} {ua : Option Addr} {uc : Nat} {st : NS} {w : World} (h : CK K T ua uc st w) (kd : Int) (tx : ByteArray) (fm : Nat) (na : Option Addr) (nc re im : Nat) (kids : List Node) {rec : NRec} {st1 st' : NS} (hkk : kd = 35) (hkl : kids.length ≤ 1000000) (hkd : KidsR K.w0 (fun _ => True) kids (.slice na kids.length nc)) (hrec : NodeC K rec) (hpre : preW K.g st (.mk kd tx fm kids re im) = some st1) (hl0 : 0 ≤ st1.loops) (hl1 : st1.loops ≤ 900000) (hcf : kidsW rec false 0 kids { st1 with loops := st1.loops + 1 } = some st') (hl2 : 0 ≤ st'.loops) (hl3 : st'.loops ≤ 900001) : Calls Tryz.prog 43 #[.pointer (some ⟨K.c, 0, none⟩), .agg #[.int .i64 kd, .string tx, .float .f64 fm, .slice na kids.length nc, .complex .f64 re im]] w fun r w' => ∃ T' ua' uc', r = .returned (.tuple #[]) ∧ CK K T' ua' uc' ({ st' with loops := st'.loops - 1 }) w' ∧ CStep K T T' w w' := by
 have hlob : -1000000 ≤ st1.loops + 1 ∧ st1.loops + 1 ≤ 1000000 := by omega
 have e35 : (kd == 35) = true := by simp [hkk]
 rw [preW_mk, if_neg qg, if_pos qg] at hpre;have e4 : (kd == 4) = false := beq_false_of_ne qg;have e5 : (kd == 5) = false := beq_false_of_ne qg;have e11 : (kd == 11) = false := beq_false_of_ne qg;have e41 : (kd == 41) = false := beq_false_of_ne qg;have e34 : (kd == 34) = false := beq_false_of_ne qg;have e19 : (kd == 19) = false := beq_false_of_ne qg;have e20 : (kd == 20) = false := beq_false_of_ne qg;have HKD := zh hkd; have HREC := zh hrec; have HCF := zh hcf;have HNR : Hid (NodeR K.w0 (fun _ => True) (.mk kd tx fm kids re im) (.agg #[.int .i64 kd, .string tx, .float .f64 fm, .slice na kids.length nc, .complex .f64 re im])) := zh (.mk hkd);clear hkd hkk hrec hcf;have HC0 := zh h; have HS0 := zh (CStep.refl K T w);clear h
 go_enter_defers Tryz.func43, Tryz.ntmps43
 obtain ⟨l_c, l_mf, l_ms, l_mn⟩ := HC0.out.lt
 go_upto_block 0 with fail
 refine zrc ?_;rintro w1 ⟨Kw1, cw1_B⟩;have ⟨n_c_B, n_B_c⟩ := zne l_c;have ⟨n_mf_B, n_B_mf⟩ := zne l_mf;have ⟨n_ms_B, n_B_ms⟩ := zne l_ms;have ⟨n_mn_B, n_B_mn⟩ := zne l_mn;have o_B : w.heap.size ≤ w.heap.size := Nat.le_refl _;have off_B : Off K T (w.heap.size) := off_new HC0.out (Nat.le_refl _);have o0_B : K.w0.heap.size ≤ w.heap.size := Nat.le_trans HC0.out.keep.size (Nat.le_refl _);have HCw1 := zh (HC0.out.kp0 Kw1);have HSw1 := zh (HS0.out.loc Kw1 jg);have Rw1_B := zh cw1_B;clear Kw1 cw1_B l_c l_mf l_ms l_mn HC0 HS0
 go_cut [] from 8 to 129 (fun W => ∃ T' ua' uc', CK K T' ua' uc' st1 W ∧ CStep K T T' w W ∧ W.heap[w.heap.size]? = some (.cells #[.int .i64 kd, .string tx, .float .f64 fm, .slice na kids.length nc, .complex .f64 re im] 50 (0, 0)) ∧ Off K T' (w.heap.size))
 case first =>
  clear HKD HREC HCF hlob hl0 hl1;obtain ⟨l_c, l_mf, l_ms, l_mn⟩ := HCw1.out.lt;obtain ⟨l_B, xB_0, xB_1, xB_2, xB_3, xB_4, yB_0, yB_1, yB_2, yB_3, yB_4⟩ := cf5 Rw1_B.out
  go_wp2_with fail
  clear l_c l_B xB_0 xB_1 xB_2 xB_3 xB_4 yB_0 yB_1 yB_2 yB_3 yB_4 l_mf l_ms l_mn;refine jvc ?_;rintro r e21 ⟨T21, ua21, uc21, rfl, hc, hs⟩;have off2_B := hs.off (h_lt Rw1_B.out) off_B;have Re21_B := zh (hs.at Rw1_B.out off_B);have off_B' := off2_B;have HCe21 := zh hc;have HSe21 := zh (HSw1.out.trans hs);clear Rw1_B off_B HCw1 HSw1 hc hs;have off_B := off_B';clear off_B' off2_B;obtain ⟨l_c, xc_0, xc_1, xc_2, xc_3, xc_4, xc_5, xc_6, xc_7, xc_8, xc_9, xc_10, yc_0, yc_1, yc_2, yc_3, yc_4, yc_5, yc_6, yc_7, yc_8, yc_9, yc_10⟩ := cf11 HCe21.out.row;obtain ⟨-, l_mf, l_ms, l_mn⟩ := HCe21.out.lt;obtain ⟨l_B, xB_0, xB_1, xB_2, xB_3, xB_4, yB_0, yB_1, yB_2, yB_3, yB_4⟩ := cf5 Re21_B.out;obtain ⟨oo, hoo⟩ : ∃ x, x = ofF K.g (namedF K.g st (Node.mk kd tx fm kids re im)) tx := ⟨_, rfl⟩;rw [← hoo] at hpre;obtain ⟨hul, rfl⟩ := useF_some hpre;have HUL := zh hul; have HOO := zh hoo;clear hul hoo hpre
  go_upto_region 10 with fail
  obtain ⟨i1, hi1, hi2, hi3, hi4⟩ := info106;have HI := zh (And.intro hi1 (And.intro hi2 (And.intro hi3 hi4)));clear hi1 hi2 hi3 hi4;have HOF := zh (of_at hK HCe21.out tx);rw [← HOO.out] at HOF;have hul0 : (namedF K.g st (Node.mk kd tx fm kids re im)).uses.length = (oo).2.uses.length := by rw [HOO.out, ofF_uses]
  try clear hcf
  try clear kc0
  try clear kc1
  try clear kc2
  try clear kc3
  try clear kc4
  try clear hcs
  try clear hcp
  try clear hlk
  try clear HREC
  try clear HKD
  try clear HSP
  try clear HFA
  try clear HFN
  try clear HFI
  try clear HCF
  try clear hkn
  try clear hm
  try clear hkl
  try clear hlt
  try clear hlt2
  try clear lg2
  try clear lg3
  try clear e4
  try clear e5
  try clear hk1
  try clear hi
  try clear o0_B
  try clear o_B
  try clear n_c_B
  try clear n_mf_B
  try clear n_ms_B
  try clear n_mn_B
  try clear n_B_c
  try clear n_B_mf
  try clear n_B_ms
  try clear n_B_mn
  try clear e19
  try clear e20
  try clear e11
  try clear e41
  try clear e32
  try clear e33
  try clear e34
  try clear e35
  try clear e4
  try clear e5
  try clear f19
  try clear f20
  try clear f11
  try clear f41
  try clear f32
  try clear f33
  try clear f34
  try clear f35
  try clear f4
  try clear f5
  try clear HNR
  refine wp_region_noPanic ?_
  go_region_law (first | ((fail_if_success (have hm9 := hcu)); refine step_call (f := 75) (vals := #[.pointer (some ⟨K.c, 0, none⟩), .string tx]) rfl _ rfl jh (HOF.out _ zg) ?_; rintro v u_ ⟨rfl, hcu, hsu⟩; have l_c2 := h_lt hcu.row; have q0 := cell_of_heap hcu.row 0; have q1 := cell_of_heap hcu.row 1; have q2 := cell_of_heap hcu.row 2; have q3 := cell_of_heap hcu.row 3; have q4 := cell_of_heap hcu.row 4; have q5 := cell_of_heap hcu.row 5; have q6 := cell_of_heap hcu.row 6; have q7 := cell_of_heap hcu.row 7; have q8 := cell_of_heap hcu.row 8; have q9 := cell_of_heap hcu.row 9; have q10 := cell_of_heap hcu.row 10; simp at q0 q1 q2 q3 q4 q5 q6 q7 q8 q9 q10; have r_B := hsu.at Re21_B.out off_B; have lr_B := h_lt r_B; have zB_0 := cell_of_heap r_B 0; have zB_1 := cell_of_heap r_B 1; have zB_2 := cell_of_heap r_B 2; have zB_3 := cell_of_heap r_B 3; have zB_4 := cell_of_heap r_B 4; simp at zB_0 zB_1 zB_2 zB_3 zB_4) | (refine step_at (fun W => Keeps [] u_ W ∧ W.heap[u_.heap.size]? = some (.cells #[.complex .f64 re im, .int .i64 oo.1.1, .string oo.1.2, .bool true, .int .i64 0, .string ⟨#[]⟩, .bool false, .bool false] 106 (0, 0))) ⟨zg, jd⟩ ?_; rintro wq ⟨hkq, cG⟩; refine step_appL useL rfl (.tmp 41) (.tmp 49) 68 rfl Tryz.underlying68 HI.out.1 HI.out.2.1 HI.out.2.2.1 HI.out.2.2.2 rfl zi zi rfl rfl (hcu.kp0 hkq).uses (c := [.complex .f64 re im, .int .i64 oo.1.1, .string oo.1.2, .bool true, .int .i64 0, .string ⟨#[]⟩, .bool false, .bool false]) cG (x := (⟨re, im, oo.1, true, noT, false, false⟩ : Use)) (S := fun _ => False) rfl (fun _ h => h.elim) (fun _ h => h.elim) (hcu.kp0 hkq).up (hcu.kp0 hkq).keep.size (Nat.le_of_lt HUL.out) ?_; rintro va wa fl hfl hka hown; obtain ⟨ka2, kc2, hva, -⟩ := hown.slice; obtain ⟨kn, hkn⟩ : ∃ k, k = ((oo.2).uses ++ [(⟨re, im, oo.1, true, noT, false, false⟩ : Use)]).length := ⟨_, rfl⟩; rw [← hkn] at hva; subst hva; have HKN := zh hkn; clear hkn; have r_c := hka.at (hcu.kp0 hkq).row (fun h => (hcu.kp0 hkq).ns.1 (hfl _ h)); have lw_c := h_lt r_c; have z0 := cell_of_heap r_c 0; have z1 := cell_of_heap r_c 1; have z2 := cell_of_heap r_c 2; have z3 := cell_of_heap r_c 3; have z4 := cell_of_heap r_c 4; have z5 := cell_of_heap r_c 5; have z6 := cell_of_heap r_c 6; have z7 := cell_of_heap r_c 7; have z8 := cell_of_heap r_c 8; have z9 := cell_of_heap r_c 9; have z10 := cell_of_heap r_c 10; have zf0 := frozen_of_heap r_c 0; have zf1 := frozen_of_heap r_c 1; have zf2 := frozen_of_heap r_c 2; have zf3 := frozen_of_heap r_c 3; have zf4 := frozen_of_heap r_c 4; have zf5 := frozen_of_heap r_c 5; have zf6 := frozen_of_heap r_c 6; have zf7 := frozen_of_heap r_c 7; have zf8 := frozen_of_heap r_c 8; have zf9 := frozen_of_heap r_c 9; have zf10 := frozen_of_heap r_c 10; simp at z0 z1 z2 z3 z4 z5 z6 z7 z8 z9 z10))
  all_goals
   refine NoPanic.normal ?_
   go_wp2_with fail
   go_meet
   have hkn := HKN.out;subst hkn;exact qvc
 obtain ⟨T1, ua1, uc1, hc, hs, hB, off_B⟩ := hcut;generalize wc = wl at *
 have HCl := zh hc; have HSl := zh hs; have RBl := zh hB;clear hc hs hB hpre HNR HCw1 HSw1 Rw1_B;obtain ⟨l_c, xc_0, xc_1, xc_2, xc_3, xc_4, xc_5, xc_6, xc_7, xc_8, xc_9, xc_10, yc_0, yc_1, yc_2, yc_3, yc_4, yc_5, yc_6, yc_7, yc_8, yc_9, yc_10⟩ := cf11 HCl.out.row;obtain ⟨-, l_mf, l_ms, l_mn⟩ := HCl.out.lt;obtain ⟨l_B, xB_0, xB_1, xB_2, xB_3, xB_4, yB_0, yB_1, yB_2, yB_3, yB_4⟩ := cf5 RBl.out
 go_wp2_with fail
 refine wp_at (fun W => Keeps [K.c] wl W ∧ W.heap[K.c]? = some (.cells #[.slice K.ra K.g.rules.length K.rc, .slice K.fa K.g.funcs.length K.fc, .map (some K.mf), .int .i64 st1.fn, .int .i64 st1.rule, .int .i64 (st1.loops + 1), .slice ua1 st1.uses.length uc1, .map (some K.ms), .map (some K.mn), .complex .f64 st1.re st1.im, .int .i64 st1.e] 70 (0, 0))) ⟨zg, (qb HCl.out.row l_c)⟩ ?_;rintro w31 ⟨Kw31, cw31_c⟩;have Rw31_B := zh (Kw31.at RBl.out (by simp [n_B_c]));have HCw31 : Hid (CK K T1 ua1 uc1 ({ st1 with loops := st1.loops + 1 }) w31) := zh (HCl.out.upd hK Kw31 cw31_c jg jg jg jg jg rfl rfl rfl HCl.out.fn hlob);have HSw31 := zh (HSl.out.loc Kw31 qeb);clear Kw31 cw31_c l_c xc_0 xc_1 xc_2 xc_3 xc_4 xc_5 xc_6 xc_7 xc_8 xc_9 xc_10 yc_0 yc_1 yc_2 yc_3 yc_4 yc_5 yc_6 yc_7 yc_8 yc_9 yc_10 l_B xB_0 xB_1 xB_2 xB_3 xB_4 yB_0 yB_1 yB_2 yB_3 yB_4 l_mf l_ms l_mn RBl HCl HSl
 go_loopg [144] (kids.length + 1) (fun g j wr => LoopW K rec false kids st' T w (w.heap.size) (.cells #[.int .i64 kd, .string tx, .float .f64 fm, .slice na kids.length nc, .complex .f64 re im] 50 (0, 0)) g j wr)
 case atStart => exact ⟨0, rfl, Nat.zero_le _, rfl, _, _, _, _, HCF.out, HCw31.out, HSw31.out, Rw31_B.out, off_B⟩
 exact jmd
end Go.Proofs.YtkfillfkbhbbjaaGreatDoor
