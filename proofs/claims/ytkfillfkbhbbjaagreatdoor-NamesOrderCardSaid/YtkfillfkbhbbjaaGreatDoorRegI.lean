/- Arr, Hed, NodL, NodV, RegI. -/
import Derived.Test.YtkfillfkbhbbjaaGreatDoorKin
import Derived.Test.YtkfillfkbhbbjaaGreatDoorInfoL
import Derived.Orders
set_option maxRecDepth 100000
set_option maxHeartbeats 4000000
set_option linter.unusedSimpArgs false
set_option linter.unusedVariables false
namespace Go.Proofs.YtkfillfkbhbbjaaGreatDoor
open Go.RowKit
theorem step_callG {P : Program} {ops : Array Oper} {o : Oper} {a : Act} {w : World} {K : Act → World → Prop} {Q : Exit → Act → World → Prop} {E : Prop} (hw : Region.wanted o (yielded ops a.tmps) = true) {f : FuncId} {vals : Array Value} (c : Call) (_ho : o.op = .call c) (hrun : (execOp a.eval o).run P w = .ok (.enter f vals) w) {R : Value → World → Prop} (hc : Calls P f vals w fun e w' => ∃ v, e = .returned v ∧ R v w') (hK : ∀ v w', R v w' → K (a.put o.dst v) w') : if Region.wanted o (yielded ops a.tmps) = true then Oper.wp P o a w K Q else E := by
 rw [if_pos hw];unfold Oper.wp;rw [hrun, Oper.upon_enter];exact jkb
theorem KindW.step {K : CKey} {T T' : Nat → Prop} {w w' : World} {b : Nat} {f : Thing → Nat} (h : KindW w b f) (hs : CStep K T T' w w') (ho : Off K T b) : KindW w' b f := by
 obtain ⟨es, k, h1, h2⟩ := h; exact ⟨es, k, hs.at h1 ho, h2⟩
theorem faultF_uses (st : NS) (re im : Nat) (e : Int) : (faultF st re im e).uses = st.uses := by unfold faultF; split <;> rfl
def ArrI (K : CKey) (T : Nat → Prop) (ua : Option Addr) (uc n : Nat) (kf : Kinds) (st' : NS) (w : World) (kb : Nat) (g : Nat) (j : Value) (W : World) : Prop :=
 ∃ k : Nat, j = .int .i64 k ∧ k ≤ n ∧ g + k = n + 1 ∧ ∃ st, st.uses.length = n ∧ arraysF kf (st.uses.drop k) st = some st' ∧ KindW W kb (fun x => kof x kf) ∧ CK K T ua uc st W ∧ CStep K T T w W
theorem arrays_any {K : CKey} (hK : CFix K) {T : Nat → Prop} {ua : Option Addr} {uc : Nat} {st : NS} {w : World} (h : CK K T ua uc st w) {kf : Kinds} {st' : NS} (hkf : kindsF st = some kf) (hul : st.uses.length ≤ 1000000) (har : arraysF kf st.uses st = some st') : Calls Tryz.prog 26 #[.pointer (some ⟨K.c, 0, none⟩)] w fun r w' => ∃ T' ua' uc', r = .returned (.tuple #[]) ∧ CK K T' ua' uc' (st') w' ∧ CStep K T T' w w' := by
 have HC0 := zh h; have HS0 := zh (CStep.refl K T w); have HK0 := zh (Keeps.refl [] w); have HKF := zh hkf; have HAR := zh har;clear h hkf har
 go_enter Tryz.func26, Tryz.ntmps26
 obtain ⟨l_c, l_mf, l_ms, l_mn⟩ := HC0.out.lt
 go_wp2_with fail
 clear l_c l_mf l_ms l_mn;refine (kinds_any hK HC0.out HKF.out hul).mono ?_;rintro r e1 ⟨kb, rfl, hle, hkb, hk⟩;have HCe1 := zh (HC0.out.kp0 hk);have HSe1 := zh (HS0.out.loc hk jg);have HKe1 := zh (HK0.out.trans hk jg);have HKB1 := zh hkb;have off_kb := off_new HC0.out hle;clear hkb;clear hk HC0 HS0 HK0;obtain ⟨l_c, xc_0, xc_1, xc_2, xc_3, xc_4, xc_5, xc_6, xc_7, xc_8, xc_9, xc_10, yc_0, yc_1, yc_2, yc_3, yc_4, yc_5, yc_6, yc_7, yc_8, yc_9, yc_10⟩ := cf11 HCe1.out.row;obtain ⟨-, l_mf, l_ms, l_mn⟩ := HCe1.out.lt
 go_wp2_with fail
 clear l_c xc_0 xc_1 xc_2 xc_3 xc_4 xc_5 xc_6 xc_7 xc_8 xc_9 xc_10 yc_0 yc_1 yc_2 yc_3 yc_4 yc_5 yc_6 yc_7 yc_8 yc_9 yc_10 l_mf l_ms l_mn;obtain ⟨n, hn⟩ : ∃ x, x = st.uses.length := ⟨_, rfl⟩;rw [← hn]
 go_loopg [12] (n + 1) (fun g j wr => ArrI K T ua uc n kf st' w kb g j wr)
 case atStart => exact ⟨0, rfl, Nat.zero_le _, rfl, st, hn.symm, HAR.out, HKB1.out, HCe1.out, HSe1.out⟩
 have hnl : n ≤ 1000000 := hn ▸ hul;clear hn hul;obtain ⟨k, rfl, hk1, hk2, st1, hl, har, hkb, hc, hs⟩ := hrel;have HCr := zh hc; have HKBr := zh hkb; have HSr := zh hs; have HL := zh hl;clear hc hkb hs
 by_cases hlt : k < n
 ·obtain ⟨gu, hgu, q0, q1, q2, q3, q4, q5, q6, q7⟩ := CK.use HCr.out (i := k) (by rw [HL.out]; exact hlt);subst hgu;have lgu : gu < wr.heap.size := lt_cell q0;have hlt2 : k < st1.uses.length := by rw [HL.out]; exact hlt
  rw [List.drop_eq_getElem_cons hlt2, arraysF] at har;generalize st1.uses[k] = u at *
  clear hl hlt2
  cases gk with
  | zero => omega
  | succ f =>
   cases hbad : u.bad with
   | true =>
    rw [hbad, if_pos rfl] at har;simp only [Option.bind_eq_bind, Option.bind_some, if_true] at har;have l_kb := HKBr.out.lt;obtain ⟨l_c, l_mf, l_ms, l_mn⟩ := HCr.out.lt
    go_wp2_with fail
    refine calls_at (fun W => Keeps [] wr W ∧ W.heap[wr.heap.size]? = some (.cells #[.complex .f64 u.re u.im, .int .i64 u.of.1, .string u.of.2, .bool u.array, .int .i64 u.param.1, .string u.param.2, .bool u.kid, .bool true] 106 (0, 0))) ⟨zg, zb⟩ ?_;rintro w51 ⟨Kw51, cw51_U⟩;have ⟨n_c_U, n_U_c⟩ := zne l_c;have ⟨n_mf_U, n_U_mf⟩ := zne l_mf;have ⟨n_ms_U, n_U_ms⟩ := zne l_ms;have ⟨n_mn_U, n_U_mn⟩ := zne l_mn;have o_U : w.heap.size ≤ wr.heap.size := HSr.out.size;have off_U : Off K T (wr.heap.size) := off_new HCr.out (Nat.le_refl _);have o0_U : K.w0.heap.size ≤ wr.heap.size := Nat.le_trans HCr.out.keep.size (Nat.le_refl _);have HCw51 := zh (HCr.out.kp0 Kw51);have HSw51 := zh (HSr.out.loc Kw51 jg);have HKkbw51 := zh (HKBr.out.keep Kw51 jg);have Rw51_U := zh cw51_U;clear Kw51 cw51_U l_c l_mf l_ms l_mn l_kb HCr HSr HKBr;refine (fault_same hK HCw51.out u.re u.im 30).mono ?_;rintro r e52 ⟨rfl, hc, hs⟩;have off2_U := hs.off (h_lt Rw51_U.out) off_U;have Re52_U := zh (hs.at Rw51_U.out off_U);have off_U' := off2_U;have HCe52 := zh hc;have HSe52 := zh (HSw51.out.trans hs);have HKkbe52 := zh (HKkbw51.out.step hs off_kb);clear Rw51_U off_U HCw51 HSw51 hc hs HKkbw51;have off_U := off_U';clear off_U' off2_U;have l_kb := HKkbe52.out.lt;obtain ⟨l_c, l_mf, l_ms, l_mn⟩ := HCe52.out.lt;have l_U := h_lt Re52_U.out
    go_wp2_with fail
    go_roundg f
    case measure => omega
    exact ⟨k + 1, by first | rfl | (simp; done) | (simp; omega), by omega, by omega, (faultF st1 u.re u.im 30), by rw [faultF_uses]; exact HL.out, by rw [faultF_uses]; exact har, HKkbe52.out, HCe52.out, HSe52.out⟩
   | false =>
    rw [hbad, if_neg jg] at har
    cases hkid : u.kid with
    | true =>
     rw [hkid, if_pos rfl] at har;simp only [Option.bind_eq_bind, Option.bind_eq_some_iff] at har;obtain ⟨b, ⟨r, hrt, hb⟩, har⟩ := har;obtain rfl : (kof r kf == 2) = b := by simpa using hb
     clear hb;obtain ⟨kn, hkn⟩ : ∃ x, x = kof r kf := ⟨_, rfl⟩;have HKN := zh hkn;rw [← hkn] at har;clear hkn;have HRT := zh hrt;clear hrt
     by_cases h2 : kn = 2
     ·have d2 : ((kn : Int) == 2) = true := by simp [h2]
      have d3 : (kn == 2) = true := by simp [h2]
      rw [d3] at har;have l_kb := HKBr.out.lt;obtain ⟨l_c, l_mf, l_ms, l_mn⟩ := HCr.out.lt
      go_wp2_with fail
      refine jnc ?_;rintro w51 ⟨Kw51, cw51_U⟩;have ⟨n_c_U, n_U_c⟩ := zne l_c;have ⟨n_mf_U, n_U_mf⟩ := zne l_mf;have ⟨n_ms_U, n_U_ms⟩ := zne l_ms;have ⟨n_mn_U, n_U_mn⟩ := zne l_mn;have o_U : w.heap.size ≤ wr.heap.size := HSr.out.size;have off_U : Off K T (wr.heap.size) := off_new HCr.out (Nat.le_refl _);have o0_U : K.w0.heap.size ≤ wr.heap.size := Nat.le_trans HCr.out.keep.size (Nat.le_refl _);have HCw51 := zh (HCr.out.kp0 Kw51);have HSw51 := zh (HSr.out.loc Kw51 jg);have HKkbw51 := zh (HKBr.out.keep Kw51 jg);have Rw51_U := zh cw51_U;clear Kw51 cw51_U l_c l_mf l_ms l_mn l_kb HCr HSr HKBr;refine (root_any HCw51.out HRT.out).mono ?_;rintro r e52 ⟨rfl, hk⟩;have Re52_U := zh (hk.at Rw51_U.out jg);have HCe52 := zh (HCw51.out.kp0 hk);have HSe52 := zh (HSw51.out.loc hk jg);have HKkbe52 := zh (HKkbw51.out.keep hk jg);clear hk Rw51_U HCw51 HSw51 HKkbw51;have l_kb := HKkbe52.out.lt;obtain ⟨l_c, l_mf, l_ms, l_mn⟩ := HCe52.out.lt;obtain ⟨l_U, xU_0, xU_1, xU_2, xU_3, xU_4, xU_5, xU_6, xU_7, yU_0, yU_1, yU_2, yU_3, yU_4, yU_5, yU_6, yU_7⟩ := cf8 Re52_U.out;have hlk2 := HKkbe52.out.look r (n := kn) HKN.out
      go_wp2_with fail
      clear l_c l_U xU_0 xU_1 xU_2 xU_3 xU_4 xU_5 xU_6 xU_7 yU_0 yU_1 yU_2 yU_3 yU_4 yU_5 yU_6 yU_7 l_mf l_ms l_mn l_kb;refine (fault_same hK HCe52.out u.re u.im 30).mono ?_;rintro r e53 ⟨rfl, hc, hs⟩;have off2_U := hs.off (h_lt Re52_U.out) off_U;have Re53_U := zh (hs.at Re52_U.out off_U);have off_U' := off2_U;have HCe53 := zh hc;have HSe53 := zh (HSe52.out.trans hs);have HKkbe53 := zh (HKkbe52.out.step hs off_kb);clear Re52_U off_U HCe52 HSe52 hc hs HKkbe52;have off_U := off_U';clear off_U' off2_U;have l_kb := HKkbe53.out.lt;obtain ⟨l_c, l_mf, l_ms, l_mn⟩ := HCe53.out.lt;have l_U := h_lt Re53_U.out
      go_wp2_with fail
      go_roundg f
      case measure => omega
      exact qnc
     have d2 : ((kn : Int) == 2) = false := by simp; omega
     have d3 : (kn == 2) = false := by simp [h2]
     rw [d3] at har;have l_kb := HKBr.out.lt;obtain ⟨l_c, l_mf, l_ms, l_mn⟩ := HCr.out.lt
     go_wp2_with fail
     refine jnc ?_;rintro w51 ⟨Kw51, cw51_U⟩;have ⟨n_c_U, n_U_c⟩ := zne l_c;have ⟨n_mf_U, n_U_mf⟩ := zne l_mf;have ⟨n_ms_U, n_U_ms⟩ := zne l_ms;have ⟨n_mn_U, n_U_mn⟩ := zne l_mn;have o_U : w.heap.size ≤ wr.heap.size := HSr.out.size;have off_U : Off K T (wr.heap.size) := off_new HCr.out (Nat.le_refl _);have o0_U : K.w0.heap.size ≤ wr.heap.size := Nat.le_trans HCr.out.keep.size (Nat.le_refl _);have HCw51 := zh (HCr.out.kp0 Kw51);have HSw51 := zh (HSr.out.loc Kw51 jg);have HKkbw51 := zh (HKBr.out.keep Kw51 jg);have Rw51_U := zh cw51_U;clear Kw51 cw51_U l_c l_mf l_ms l_mn l_kb HCr HSr HKBr;refine (root_any HCw51.out HRT.out).mono ?_;rintro r e52 ⟨rfl, hk⟩;have Re52_U := zh (hk.at Rw51_U.out jg);have HCe52 := zh (HCw51.out.kp0 hk);have HSe52 := zh (HSw51.out.loc hk jg);have HKkbe52 := zh (HKkbw51.out.keep hk jg);clear hk Rw51_U HCw51 HSw51 HKkbw51;have l_kb := HKkbe52.out.lt;obtain ⟨l_c, l_mf, l_ms, l_mn⟩ := HCe52.out.lt;obtain ⟨l_U, xU_0, xU_1, xU_2, xU_3, xU_4, xU_5, xU_6, xU_7, yU_0, yU_1, yU_2, yU_3, yU_4, yU_5, yU_6, yU_7⟩ := cf8 Re52_U.out;have hlk2 := HKkbe52.out.look r (n := kn) HKN.out
     go_upto_region 6 with fail
     go_cut [16] (fun s16 W => s16 = .bool false ∧ Keeps [] e52 W)
     case first =>
      exact jod
     obtain ⟨rfl, hk⟩ := hcut;generalize wc = w53 at *
     have Rw53_U := zh (hk.at Re52_U.out jg);have HCw53 := zh (HCe52.out.kp0 hk);have HSw53 := zh (HSe52.out.loc hk jg);have HKkbw53 := zh (HKkbe52.out.keep hk jg);clear hk Re52_U HCe52 HSe52 HKkbe52 l_c l_U xU_0 xU_1 xU_2 xU_3 xU_4 xU_5 xU_6 xU_7 yU_0 yU_1 yU_2 yU_3 yU_4 yU_5 yU_6 yU_7 l_mf l_ms l_mn l_kb;have l_kb := HKkbw53.out.lt;obtain ⟨l_c, l_mf, l_ms, l_mn⟩ := HCw53.out.lt;have l_U := h_lt Rw53_U.out
     go_wp2_with fail
     go_roundg f
     case measure => omega
     exact ⟨k + 1, by first | rfl | (simp; done) | (simp; omega), by omega, by omega, st1, HL.out, har, HKkbw53.out, HCw53.out, HSw53.out⟩
    | false =>
     rw [hkid, if_neg jg] at har;simp only [Option.bind_eq_bind, Option.bind_eq_some_iff] at har;obtain ⟨b, ⟨r, hrt, hb⟩, har⟩ := har;obtain rfl : ((kof r kf == 2) != u.array) = b := by simpa using hb
     clear hb;obtain ⟨kn, hkn⟩ : ∃ x, x = kof r kf := ⟨_, rfl⟩;have HKN := zh hkn;rw [← hkn] at har;clear hkn;have HRT := zh hrt;clear hrt
     cases harr : u.array with
     | true =>
      rw [harr] at har
      by_cases h2 : kn = 2
      ·have d2 : ((kn : Int) == 2) = true := by simp [h2]
       have d3 : (kn == 2) = true := by simp [h2]
       rw [d3] at har;have l_kb := HKBr.out.lt;obtain ⟨l_c, l_mf, l_ms, l_mn⟩ := HCr.out.lt
       go_upto_region 6 with fail
       refine zoc ?_;exact zdd
      have d2 : ((kn : Int) == 2) = false := by simp; omega
      have d3 : (kn == 2) = false := by simp [h2]
      rw [d3] at har;have l_kb := HKBr.out.lt;obtain ⟨l_c, l_mf, l_ms, l_mn⟩ := HCr.out.lt
      go_upto_region 6 with fail
      refine zoc ?_;exact zcd
     | false =>
      rw [harr] at har
      by_cases h2 : kn = 2
      ·have d2 : ((kn : Int) == 2) = true := by simp [h2]
       have d3 : (kn == 2) = true := by simp [h2]
       rw [d3] at har;have l_kb := HKBr.out.lt;obtain ⟨l_c, l_mf, l_ms, l_mn⟩ := HCr.out.lt
       go_upto_region 6 with fail
       refine zpc ?_;exact zcd
      have d2 : ((kn : Int) == 2) = false := by simp; omega
      have d3 : (kn == 2) = false := by simp [h2]
      rw [d3] at har;have l_kb := HKBr.out.lt;obtain ⟨l_c, l_mf, l_ms, l_mn⟩ := HCr.out.lt
      go_upto_region 6 with fail
      refine zpc ?_;exact zdd
 have hke : k = st1.uses.length := by rw [HL.out]; omega
 rw [hke, List.drop_length, arraysF] at har;obtain rfl : st1 = st' := by simpa using har
 clear har hl;have l_kb := HKBr.out.lt;obtain ⟨l_c, l_mf, l_ms, l_mn⟩ := HCr.out.lt
 go_wp2_with fail
 refine end_at (v := .tuple #[]) (fun W => Keeps [] wr W) zg (fun w51 hW => ?_) rfl (fun w51 hW => ?_)
 ·have Kw51 : Keeps [] wr w51 := hW;exact jnb
 have Kw51 : Keeps [] wr w51 := hW;have HCw51 := zh (HCr.out.kp0 Kw51);have HSw51 := zh (HSr.out.loc Kw51 jg);have HKkbw51 := zh (HKBr.out.keep Kw51 jg);clear Kw51 l_c l_mf l_ms l_mn l_kb HCr HSr HKBr;exact jpc
theorem heads_any {K : CKey} (hK : CFix K) {w : World} {st' : NS} (h00 : Keeps [] K.w0 w) (hcr : w.heap[K.c]? = some (ckC K ns0 none 0)) (hmf : w.heap[K.mf]? = some (.map #[] 0)) (hms : w.heap[K.ms]? = some (.map #[] 0)) (hmn : w.heap[K.mn]? = some (.map #[] 0)) (hst : headsA K.g 0 K.g.funcs ns0 = st') : Calls Tryz.prog 24 #[.pointer (some ⟨K.c, 0, none⟩)] w fun r w' => ∃ T ua uc, r = .returned (.tuple #[]) ∧ CK K T ua uc st' w' := by
 have hfs := hK.small;have HK00 := zh h00; have HCR := zh hcr; have HMF := zh hmf; have HMS := zh hms; have HMN := zh hmn;clear h00 hcr hmf hms hmn
 go_enter Tryz.func24, Tryz.ntmps24
 obtain ⟨l_c, xc_0, xc_1, xc_2, xc_3, xc_4, xc_5, xc_6, xc_7, xc_8, xc_9, xc_10, yc_0, yc_1, yc_2, yc_3, yc_4, yc_5, yc_6, yc_7, yc_8, yc_9, yc_10⟩ := cf11 HCR.out;obtain ⟨fa, hfa0⟩ : ∃ x, K.fa = x := ⟨_, rfl⟩;rw [hfa0] at xc_1;have HFA0 := zh hfa0;clear hfa0
 go_wp2_with fail
 clear l_c xc_0 xc_1 xc_2 xc_3 xc_4 xc_5 xc_6 xc_7 xc_8 xc_9 xc_10 yc_0 yc_1 yc_2 yc_3 yc_4 yc_5 yc_6 yc_7 yc_8 yc_9 yc_10
 go_loopg [18] (K.g.funcs.length + 1) (fun g j wr => HedI1 K w g j wr)
 case atStart => exact ⟨0, rfl, Nat.zero_le _, rfl, Keeps.refl _ _, [], 0, HMF.out, fun s => rfl⟩
 obtain ⟨k, rfl, hk1, hk2, hk, es, ek, hmf, hmi⟩ := hrel;have HKr := zh hk; have RM := zh hmf; have HMI := zh hmi; have RC := zh (hk.at HCR.out (by simp [hK.ne.1]));have hkw : Keeps [] K.w0 wr := HK00.out.trans hk (by simp; exact hK.mf);clear hk hmf hmi
 by_cases hlt : k < K.g.funcs.length
 ·obtain ⟨g, o, pa, pc, fmb, nab, ncb, hfa, c0, c1, c2, c3, c4, c5, c6, c7, hsp, hcap⟩ := func_at hK hkw hlt;have lg : g < wr.heap.size := lt_cell c0;have efa := HFA0.out.symm.trans hfa;subst efa;clear hfa;have hta : K.g.funcs.take (k + 1) = K.g.funcs.take k ++ [K.g.funcs[k]] := List.take_succ_eq_append_getElem hlt;generalize K.g.funcs[k] = fu at *
  have n_c_mf : K.c ≠ K.mf := hK.ne.1;have n_mf_c := Ne.symm n_c_mf;have o_mf0 := hK.mf
  cases gk with
  | zero => omega
  | succ f =>
   have hkv0 := HMI.out fu.name
   by_cases h0 : flookA fu.name (K.g.funcs.take k) 0 = 0
   ·have hkv : kval fu.name es = none := by rw [hkv0, if_pos h0]
    clear hkv0;have l_c := h_lt RC.out;have l_mf := h_lt RM.out
    go_upto_region 3 with fail
    refine qpc ?_;rintro w51 ⟨Kw51, cw51_F⟩;have ⟨n_c_F, n_F_c⟩ := zne l_c;have ⟨n_mf_F, n_F_mf⟩ := zne l_mf;have o_F : w.heap.size ≤ wr.heap.size := HKr.out.size;have Rw51_c := zh (Kw51.at RC.out jg);have Rw51_mf := zh (Kw51.at RM.out jg);have HKw51 := zh (HKr.out.trans Kw51 jg);have Rw51_F := zh cw51_F;clear Kw51 cw51_F l_c l_mf RC RM HKr;obtain ⟨l_c, xc_0, xc_1, xc_2, xc_3, xc_4, xc_5, xc_6, xc_7, xc_8, xc_9, xc_10, yc_0, yc_1, yc_2, yc_3, yc_4, yc_5, yc_6, yc_7, yc_8, yc_9, yc_10⟩ := cf11 Rw51_c.out;have l_mf := h_lt Rw51_mf.out;obtain ⟨l_F, xF_0, xF_1, xF_2, xF_3, xF_4, xF_5, xF_6, xF_7, yF_0, yF_1, yF_2, yF_3, yF_4, yF_5, yF_6, yF_7⟩ := cf8 Rw51_F.out;have hlk := look65n (W := w51.drew) Rw51_mf.out hkv
    go_cut [4, 5] (fun s4 s5 W => s4 = .int .i64 0 ∧ s5 = .bool false ∧ Keeps [] w51 W)
    case first =>
     go_region
     all_goals
      go_wp2_with fail
      go_meet
      case rel => exact ⟨rfl, rfl, zg⟩
    obtain ⟨rfl, rfl, hk⟩ := hcut;generalize wc = w52 at *
    have Rw52_c := zh (hk.at Rw51_c.out jg);have Rw52_mf := zh (hk.at Rw51_mf.out jg);have Rw52_F := zh (hk.at Rw51_F.out jg);have HKw52 := zh (HKw51.out.trans hk jg);clear hk Rw51_c Rw51_mf Rw51_F HKw51 l_c xc_0 xc_1 xc_2 xc_3 xc_4 xc_5 xc_6 xc_7 xc_8 xc_9 xc_10 yc_0 yc_1 yc_2 yc_3 yc_4 yc_5 yc_6 yc_7 yc_8 yc_9 yc_10 l_mf l_F xF_0 xF_1 xF_2 xF_3 xF_4 xF_5 xF_6 xF_7 yF_0 yF_1 yF_2 yF_3 yF_4 yF_5 yF_6 yF_7;obtain ⟨l_c, xc_0, xc_1, xc_2, xc_3, xc_4, xc_5, xc_6, xc_7, xc_8, xc_9, xc_10, yc_0, yc_1, yc_2, yc_3, yc_4, yc_5, yc_6, yc_7, yc_8, yc_9, yc_10⟩ := cf11 Rw52_c.out;have l_mf := h_lt Rw52_mf.out;obtain ⟨l_F, xF_0, xF_1, xF_2, xF_3, xF_4, xF_5, xF_6, xF_7, yF_0, yF_1, yF_2, yF_3, yF_4, yF_5, yF_6, yF_7⟩ := cf8 Rw52_F.out
    go_upto_region 5 with fail
    have hup := run_fns (W := w52.drew) Rw52_mf.out fu.name (.int .i64 ((k : Int) + 1))
    go_wp2_with fail
    go_region
    all_goals
     have l_c := h_lt Rw52_c.out;have l_mf := h_lt Rw52_mf.out;have l_F := h_lt Rw52_F.out
     go_wp2_with fail
     go_roundg f
     case measure => omega
     refine inv_at (fun W => Keeps [K.mf] w52 W ∧ W.heap[K.mf]? = some (.map (ents (fun s => Value.string s) (kput fu.name (.int .i64 ((k : Int) + 1)) ek es).1) (kput fu.name (.int .i64 ((k : Int) + 1)) ek es).2)) ⟨zg, (qb Rw52_mf.out l_mf)⟩ ?_;rintro w53 ⟨Kw53, cw53_mf⟩;have Rw53_c := zh (Kw53.at Rw52_c.out (by simp [n_c_mf]));have Rw53_F := zh (Kw53.at Rw52_F.out (by simp [n_F_mf]));have HKw53 := zh (HKw52.out.trans Kw53 jg);have Rw53_mf := zh cw53_mf;clear Kw53 cw53_mf l_c l_mf l_F Rw52_c Rw52_F HKw52 Rw52_mf;exact ⟨k + 1, by first | rfl | (simp; done) | (simp; omega), by omega, by omega, HKw53.out, _, _, Rw53_mf.out, by rw [hta]; exact HMI.out.put h0 (by rw [List.length_take, Nat.min_eq_left hk1]; rfl)⟩
   obtain ⟨vv, hkv⟩ : ∃ v, kval fu.name es = some v := ⟨_, by rw [hkv0, if_neg h0]⟩;clear hkv0;have l_c := h_lt RC.out;have l_mf := h_lt RM.out
   go_upto_region 3 with fail
   refine qpc ?_;rintro w51 ⟨Kw51, cw51_F⟩;have ⟨n_c_F, n_F_c⟩ := zne l_c;have ⟨n_mf_F, n_F_mf⟩ := zne l_mf;have o_F : w.heap.size ≤ wr.heap.size := HKr.out.size;have Rw51_c := zh (Kw51.at RC.out jg);have Rw51_mf := zh (Kw51.at RM.out jg);have HKw51 := zh (HKr.out.trans Kw51 jg);have Rw51_F := zh cw51_F;clear Kw51 cw51_F l_c l_mf RC RM HKr;obtain ⟨l_c, xc_0, xc_1, xc_2, xc_3, xc_4, xc_5, xc_6, xc_7, xc_8, xc_9, xc_10, yc_0, yc_1, yc_2, yc_3, yc_4, yc_5, yc_6, yc_7, yc_8, yc_9, yc_10⟩ := cf11 Rw51_c.out;have l_mf := h_lt Rw51_mf.out;obtain ⟨l_F, xF_0, xF_1, xF_2, xF_3, xF_4, xF_5, xF_6, xF_7, yF_0, yF_1, yF_2, yF_3, yF_4, yF_5, yF_6, yF_7⟩ := cf8 Rw51_F.out;have hlk := look65s (W := w51.drew) Rw51_mf.out hkv
   go_cut [4, 5] (fun s4 s5 W => s4 = vv ∧ s5 = .bool true ∧ Keeps [] w51 W)
   case first =>
    go_region
    all_goals
     go_wp2_with fail
     go_meet
     case rel => exact ⟨rfl, rfl, zg⟩
   obtain ⟨rfl, rfl, hk⟩ := hcut;generalize wc = w52 at *
   have Rw52_c := zh (hk.at Rw51_c.out jg);have Rw52_mf := zh (hk.at Rw51_mf.out jg);have Rw52_F := zh (hk.at Rw51_F.out jg);have HKw52 := zh (HKw51.out.trans hk jg);clear hk Rw51_c Rw51_mf Rw51_F HKw51 l_c xc_0 xc_1 xc_2 xc_3 xc_4 xc_5 xc_6 xc_7 xc_8 xc_9 xc_10 yc_0 yc_1 yc_2 yc_3 yc_4 yc_5 yc_6 yc_7 yc_8 yc_9 yc_10 l_mf l_F xF_0 xF_1 xF_2 xF_3 xF_4 xF_5 xF_6 xF_7 yF_0 yF_1 yF_2 yF_3 yF_4 yF_5 yF_6 yF_7;have l_c := h_lt Rw52_c.out;have l_mf := h_lt Rw52_mf.out;have l_F := h_lt Rw52_F.out
   go_wp2_with fail
   go_roundg f
   case measure => omega
   exact ⟨k + 1, by first | rfl | (simp; done) | (simp; omega), by omega, by omega, HKw52.out, _, _, Rw52_mf.out, by rw [hta]; exact HMI.out.skip h0⟩
 have hke : k = K.g.funcs.length := by omega
 have hmi2 := HMI.out;rw [hke, List.take_length] at hmi2;obtain ⟨T, ua, uc, hck⟩ := ck_start hK HK00.out HKr.out HCR.out HMS.out HMN.out RM.out hmi2;clear hmi2 hke hkw HKr RM HMI RC
 rename World => wo
 have HC0 := zh hck; have HS0 := zh (CStep.refl K T wo);clear hck;obtain ⟨l_c, xc_0, xc_1, xc_2, xc_3, xc_4, xc_5, xc_6, xc_7, xc_8, xc_9, xc_10, yc_0, yc_1, yc_2, yc_3, yc_4, yc_5, yc_6, yc_7, yc_8, yc_9, yc_10⟩ := cf11 HC0.out.row;obtain ⟨-, l_mf, l_ms, l_mn⟩ := HC0.out.lt;rw [HFA0.out] at xc_1
 go_wp2_with fail
 clear l_c xc_0 xc_1 xc_2 xc_3 xc_4 xc_5 xc_6 xc_7 xc_8 xc_9 xc_10 yc_0 yc_1 yc_2 yc_3 yc_4 yc_5 yc_6 yc_7 yc_8 yc_9 yc_10 l_mf l_ms l_mn
 go_loopg [50] (K.g.funcs.length + 1) (fun g j wr => HedI2 K T ua uc st' wo g j wr)
 case atStart => exact ⟨0, rfl, Nat.zero_le _, rfl, ns0, hst, HC0.out, HS0.out⟩
 rename World => wp
 obtain ⟨k, rfl, hk1, hk2, st1, hh, hc, hs⟩ := hrel
 by_cases hlt : k < K.g.funcs.length
 ·obtain ⟨g, o, pa, pc, fmb, nab, ncb, hfa, c0, c1, c2, c3, c4, c5, c6, c7, hsp, hcap⟩ := func_at hK hc.keep hlt;have lg : g < wp.heap.size := lt_cell c0;have efa := HFA0.out.symm.trans hfa;subst efa;clear hfa;have HCp := zh hc; have HSp := zh hs; have HSPP := zh hsp;have hps : K.g.funcs[k].params.length ≤ 1000000 := hK.psmall _ (List.getElem_mem hlt);clear hc hs hsp;rw [List.drop_eq_getElem_cons hlt, headsA] at hh;generalize K.g.funcs[k] = fu at *
  cases gk with
  | zero => omega
  | succ f =>
   obtain ⟨l_c, l_mf, l_ms, l_mn⟩ := HCp.out.lt
   go_upto_block 4 with fail
   refine wp_at (fun W => Keeps [] wp W ∧ W.heap[wp.heap.size]? = some (.cells #[.string fu.name, .slice pa fu.params.length pc, .int .i64 fu.body.kind, .string fu.body.name, .float .f64 fmb, .slice nab fu.body.kids.length ncb, .complex .f64 fu.body.re fu.body.im, .complex .f64 fu.re fu.im] 61 (0, 0))) ⟨zg, zb⟩ ?_;rintro w21 ⟨Kw21, cw21_F⟩;have ⟨n_c_F, n_F_c⟩ := zne l_c;have ⟨n_mf_F, n_F_mf⟩ := zne l_mf;have ⟨n_ms_F, n_F_ms⟩ := zne l_ms;have ⟨n_mn_F, n_F_mn⟩ := zne l_mn;have o_F : wo.heap.size ≤ wp.heap.size := HSp.out.size;have off_F : Off K T (wp.heap.size) := off_new HCp.out (Nat.le_refl _);have o0_F : K.w0.heap.size ≤ wp.heap.size := Nat.le_trans HCp.out.keep.size (Nat.le_refl _);have HCw21 := zh (HCp.out.kp0 Kw21);have HSw21 := zh (HSp.out.loc Kw21 jg);have Rw21_F := zh cw21_F;clear Kw21 cw21_F l_c l_mf l_ms l_mn HCp HSp
   go_cut [] (fun W => CK K T ua uc (if flook K.g fu.name ≠ k + 1 then faultF st1 fu.re fu.im 29 else if specialF fu.name = true then faultF st1 fu.re fu.im 28 else st1) W ∧ CStep K T T wo W ∧ W.heap[wp.heap.size]? = some (.cells #[.string fu.name, .slice pa fu.params.length pc, .int .i64 fu.body.kind, .string fu.body.name, .float .f64 fmb, .slice nab fu.body.kids.length ncb, .complex .f64 fu.body.re fu.body.im, .complex .f64 fu.re fu.im] 61 (0, 0)))
   case first =>
    obtain ⟨fl, hfl⟩ : ∃ x, x = flook K.g fu.name := ⟨_, rfl⟩;have HFL := zh hfl
    by_cases h0 : fl = k + 1
    ·have hf0 : flook K.g fu.name = k + 1 := hfl.symm.trans h0;have b1 : ((fl : Int) == (k : Int) + 1) = true := by simp; omega
     have b2 : ((fl : Int) != (k : Int) + 1) = false := by simp; omega
     have b3 : (fl : Int) = (k : Int) + 1 := by omega
     clear hfl
     by_cases hsp : specialF fu.name = true
     ·have HST : Hid ((if flook K.g fu.name ≠ k + 1 then faultF st1 fu.re fu.im 29 else if specialF fu.name = true then faultF st1 fu.re fu.im 28 else st1) = faultF st1 fu.re fu.im 28) := zh (by simp [hf0, hsp]);clear h0 b3 hf0;obtain ⟨l_c, xc_0, xc_1, xc_2, xc_3, xc_4, xc_5, xc_6, xc_7, xc_8, xc_9, xc_10, yc_0, yc_1, yc_2, yc_3, yc_4, yc_5, yc_6, yc_7, yc_8, yc_9, yc_10⟩ := cf11 HCw21.out.row;obtain ⟨-, l_mf, l_ms, l_mn⟩ := HCw21.out.lt;obtain ⟨l_F, xF_0, xF_1, xF_2, xF_3, xF_4, xF_5, xF_6, xF_7, yF_0, yF_1, yF_2, yF_3, yF_4, yF_5, yF_6, yF_7⟩ := cf8 Rw21_F.out
      go_upto_region 10 with fail
      have hlk := HCw21.out.flook' fu.name (v := (fl : Int)) zeb
      go_cut [55] (fun s55 W => s55 = .bool false ∧ Keeps [] w21 W)
      case first =>
       exact jod
      obtain ⟨rfl, hk⟩ := hcut;generalize wc = w31 at *
      have Rw31_F := zh (hk.at Rw21_F.out jg);have HCw31 := zh (HCw21.out.kp0 hk);have HSw31 := zh (HSw21.out.loc hk jg);clear hk Rw21_F HCw21 HSw21 l_c xc_0 xc_1 xc_2 xc_3 xc_4 xc_5 xc_6 xc_7 xc_8 xc_9 xc_10 yc_0 yc_1 yc_2 yc_3 yc_4 yc_5 yc_6 yc_7 yc_8 yc_9 yc_10 l_F xF_0 xF_1 xF_2 xF_3 xF_4 xF_5 xF_6 xF_7 yF_0 yF_1 yF_2 yF_3 yF_4 yF_5 yF_6 yF_7 l_mf l_ms l_mn;obtain ⟨l_c, l_mf, l_ms, l_mn⟩ := HCw31.out.lt;obtain ⟨l_F, xF_0, xF_1, xF_2, xF_3, xF_4, xF_5, xF_6, xF_7, yF_0, yF_1, yF_2, yF_3, yF_4, yF_5, yF_6, yF_7⟩ := cf8 Rw31_F.out
      go_wp2_with fail
      clear l_c l_F xF_0 xF_1 xF_2 xF_3 xF_4 xF_5 xF_6 xF_7 yF_0 yF_1 yF_2 yF_3 yF_4 yF_5 yF_6 yF_7 l_mf l_ms l_mn;refine (special_any fu.name _).mono ?_;rintro r w' ⟨rfl, hw'⟩;rw [hw'];clear hw';obtain ⟨l_c, l_mf, l_ms, l_mn⟩ := HCw31.out.lt;obtain ⟨l_F, xF_0, xF_1, xF_2, xF_3, xF_4, xF_5, xF_6, xF_7, yF_0, yF_1, yF_2, yF_3, yF_4, yF_5, yF_6, yF_7⟩ := cf8 Rw31_F.out
      go_wp2_with fail
      clear l_c l_F xF_0 xF_1 xF_2 xF_3 xF_4 xF_5 xF_6 xF_7 yF_0 yF_1 yF_2 yF_3 yF_4 yF_5 yF_6 yF_7 l_mf l_ms l_mn;refine (fault_same hK HCw31.out fu.re fu.im 28).mono ?_;exact qod
     simp only [Bool.not_eq_true] at hsp;have HST : Hid ((if flook K.g fu.name ≠ k + 1 then faultF st1 fu.re fu.im 29 else if specialF fu.name = true then faultF st1 fu.re fu.im 28 else st1) = st1) := zh (by simp [hf0, hsp]);clear h0 b3 hf0;obtain ⟨l_c, xc_0, xc_1, xc_2, xc_3, xc_4, xc_5, xc_6, xc_7, xc_8, xc_9, xc_10, yc_0, yc_1, yc_2, yc_3, yc_4, yc_5, yc_6, yc_7, yc_8, yc_9, yc_10⟩ := cf11 HCw21.out.row;obtain ⟨-, l_mf, l_ms, l_mn⟩ := HCw21.out.lt;obtain ⟨l_F, xF_0, xF_1, xF_2, xF_3, xF_4, xF_5, xF_6, xF_7, yF_0, yF_1, yF_2, yF_3, yF_4, yF_5, yF_6, yF_7⟩ := cf8 Rw21_F.out
     go_upto_region 10 with fail
     have hlk := HCw21.out.flook' fu.name (v := (fl : Int)) zeb
     go_cut [55] (fun s55 W => s55 = .bool false ∧ Keeps [] w21 W)
     case first =>
      exact jod
     obtain ⟨rfl, hk⟩ := hcut;generalize wc = w31 at *
     have Rw31_F := zh (hk.at Rw21_F.out jg);have HCw31 := zh (HCw21.out.kp0 hk);have HSw31 := zh (HSw21.out.loc hk jg);clear hk Rw21_F HCw21 HSw21 l_c xc_0 xc_1 xc_2 xc_3 xc_4 xc_5 xc_6 xc_7 xc_8 xc_9 xc_10 yc_0 yc_1 yc_2 yc_3 yc_4 yc_5 yc_6 yc_7 yc_8 yc_9 yc_10 l_F xF_0 xF_1 xF_2 xF_3 xF_4 xF_5 xF_6 xF_7 yF_0 yF_1 yF_2 yF_3 yF_4 yF_5 yF_6 yF_7 l_mf l_ms l_mn;obtain ⟨l_c, l_mf, l_ms, l_mn⟩ := HCw31.out.lt;obtain ⟨l_F, xF_0, xF_1, xF_2, xF_3, xF_4, xF_5, xF_6, xF_7, yF_0, yF_1, yF_2, yF_3, yF_4, yF_5, yF_6, yF_7⟩ := cf8 Rw31_F.out
     go_wp2_with fail
     clear l_c l_F xF_0 xF_1 xF_2 xF_3 xF_4 xF_5 xF_6 xF_7 yF_0 yF_1 yF_2 yF_3 yF_4 yF_5 yF_6 yF_7 l_mf l_ms l_mn;refine (special_any fu.name _).mono ?_;rintro r w' ⟨rfl, hw'⟩;rw [hw'];clear hw';obtain ⟨l_c, l_mf, l_ms, l_mn⟩ := HCw31.out.lt;have l_F := h_lt Rw31_F.out
     go_wp2_with fail
     go_meet
     case rel => exact ⟨by rw [HST.out]; exact HCw31.out, HSw31.out, Rw31_F.out⟩
    have hf0 : ¬ flook K.g fu.name = k + 1 := fun h => h0 (hfl.trans h)
    have b1 : ((fl : Int) == (k : Int) + 1) = false := by simp; omega
    have b2 : ((fl : Int) != (k : Int) + 1) = true := by simp; omega
    have HST : Hid ((if flook K.g fu.name ≠ k + 1 then faultF st1 fu.re fu.im 29 else if specialF fu.name = true then faultF st1 fu.re fu.im 28 else st1) = faultF st1 fu.re fu.im 29) := zh (by simp [hf0]);clear h0 hfl hf0;obtain ⟨l_c, xc_0, xc_1, xc_2, xc_3, xc_4, xc_5, xc_6, xc_7, xc_8, xc_9, xc_10, yc_0, yc_1, yc_2, yc_3, yc_4, yc_5, yc_6, yc_7, yc_8, yc_9, yc_10⟩ := cf11 HCw21.out.row;obtain ⟨-, l_mf, l_ms, l_mn⟩ := HCw21.out.lt;obtain ⟨l_F, xF_0, xF_1, xF_2, xF_3, xF_4, xF_5, xF_6, xF_7, yF_0, yF_1, yF_2, yF_3, yF_4, yF_5, yF_6, yF_7⟩ := cf8 Rw21_F.out
    go_upto_region 10 with fail
    have hlk := HCw21.out.flook' fu.name (v := (fl : Int)) zeb
    go_cut [55] (fun s55 W => s55 = .bool true ∧ Keeps [] w21 W)
    case first =>
     exact jod
    obtain ⟨rfl, hk⟩ := hcut;generalize wc = w31 at *
    have Rw31_F := zh (hk.at Rw21_F.out jg);have HCw31 := zh (HCw21.out.kp0 hk);have HSw31 := zh (HSw21.out.loc hk jg);clear hk Rw21_F HCw21 HSw21 l_c xc_0 xc_1 xc_2 xc_3 xc_4 xc_5 xc_6 xc_7 xc_8 xc_9 xc_10 yc_0 yc_1 yc_2 yc_3 yc_4 yc_5 yc_6 yc_7 yc_8 yc_9 yc_10 l_F xF_0 xF_1 xF_2 xF_3 xF_4 xF_5 xF_6 xF_7 yF_0 yF_1 yF_2 yF_3 yF_4 yF_5 yF_6 yF_7 l_mf l_ms l_mn;obtain ⟨l_c, l_mf, l_ms, l_mn⟩ := HCw31.out.lt;obtain ⟨l_F, xF_0, xF_1, xF_2, xF_3, xF_4, xF_5, xF_6, xF_7, yF_0, yF_1, yF_2, yF_3, yF_4, yF_5, yF_6, yF_7⟩ := cf8 Rw31_F.out
    go_wp2_with fail
    clear l_c l_F xF_0 xF_1 xF_2 xF_3 xF_4 xF_5 xF_6 xF_7 yF_0 yF_1 yF_2 yF_3 yF_4 yF_5 yF_6 yF_7 l_mf l_ms l_mn;refine (fault_same hK HCw31.out fu.re fu.im 29).mono ?_;exact qod
   obtain ⟨hc, hs, hF⟩ := hcut;generalize wc = wq at *
   generalize (if flook K.g fu.name ≠ k + 1 then faultF st1 fu.re fu.im 29 else if specialF fu.name = true then faultF st1 fu.re fu.im 28 else st1) = st2 at *
   have HCq := zh hc; have HSq := zh hs; have RFq := zh hF;clear hc hs hF HCw21 HSw21 Rw21_F;obtain ⟨st3, hs3⟩ : ∃ x, x = headPs K.g k fu [] fu.params st2 := ⟨_, rfl⟩;rw [← hs3] at hh;have HS3 := zh hs3;clear hs3;obtain ⟨l_c, l_mf, l_ms, l_mn⟩ := HCq.out.lt;obtain ⟨l_F, xF_0, xF_1, xF_2, xF_3, xF_4, xF_5, xF_6, xF_7, yF_0, yF_1, yF_2, yF_3, yF_4, yF_5, yF_6, yF_7⟩ := cf8 RFq.out
   go_wp2_with fail
   clear l_c l_F xF_0 xF_1 xF_2 xF_3 xF_4 xF_5 xF_6 xF_7 yF_0 yF_1 yF_2 yF_3 yF_4 yF_5 yF_6 yF_7 l_mf l_ms l_mn
   go_loopg [81] (fu.params.length + 1) (fun g j wr => HedI3 K T ua uc k fu st3 wo (wp.heap.size) (.cells #[.string fu.name, .slice pa fu.params.length pc, .int .i64 fu.body.kind, .string fu.body.name, .float .f64 fmb, .slice nab fu.body.kids.length ncb, .complex .f64 fu.body.re fu.body.im, .complex .f64 fu.re fu.im] 61 (0, 0)) g j wr)
   case atStart => exact ⟨0, rfl, Nat.zero_le _, rfl, st2, HS3.out.symm, HCq.out, HSq.out, RFq.out⟩
   rename World => ws
   obtain ⟨i, rfl, hi1, hi2, st4, hh3, hc, hs, hF⟩ := hrel
   by_cases hlt3 : i < fu.params.length
   ·obtain ⟨g4, o4, hpa, hcs⟩ := CK.str hc HSPP.out hlt3;subst hpa;have HCs := zh hc; have HSs := zh hs; have RFws := zh hF;have lg4 : g4 < ws.heap.size := lt_cell hcs;have hipc : i ≤ pc := Nat.le_trans hi1 hcap;have hti : (fu.params.take i).length = i := by rw [List.length_take, Nat.min_eq_left hi1]
    rw [List.drop_eq_getElem_cons hlt3, headPs] at hh3;have hta : fu.params.take (i + 1) = fu.params.take i ++ [fu.params[i]] := List.take_succ_eq_append_getElem hlt3;generalize hsv : fu.params[i] = s at *
    clear hsv hc hs hF;obtain ⟨st5, hs5⟩ : ∃ x, x = headP fu s (fu.params.take i) st4 := ⟨_, rfl⟩;rw [← hs5] at hh3;have HS5 := zh hs5;have HS6 := zh hta;clear hs5 hta
    cases gk with
    | zero => omega
    | succ f2 =>
     obtain ⟨l_c, l_mf, l_ms, l_mn⟩ := HCs.out.lt;obtain ⟨l_F, xF_0, xF_1, xF_2, xF_3, xF_4, xF_5, xF_6, xF_7, yF_0, yF_1, yF_2, yF_3, yF_4, yF_5, yF_6, yF_7⟩ := cf8 RFws.out
     go_wp2_with fail
     clear l_c l_F xF_0 xF_1 xF_2 xF_3 xF_4 xF_5 xF_6 xF_7 yF_0 yF_1 yF_2 yF_3 yF_4 yF_5 yF_6 yF_7 l_mf l_ms l_mn
     go_loopg [91] (i + 1) (fun g j wr => HedI4 K T ua uc fu s (fu.params.take i) st5 wo (wp.heap.size) (.cells #[.string fu.name, .slice (some ⟨g4, o4, none⟩) fu.params.length pc, .int .i64 fu.body.kind, .string fu.body.name, .float .f64 fmb, .slice nab fu.body.kids.length ncb, .complex .f64 fu.body.re fu.body.im, .complex .f64 fu.re fu.im] 61 (0, 0)) g j wr)
     case atStart => exact ⟨0, rfl, Nat.zero_le _, by rw [hti], st4, HS5.out.symm, HCs.out, HSs.out, RFws.out⟩
     obtain ⟨m, rfl, hm1, hm2, st6, hh4, hc, hs, hF⟩ := hrel;have HCr := zh hc; have HSr := zh hs; have RFwr := zh hF;clear hc hs hF
     by_cases hlt4 : m < (fu.params.take i).length
     ·have hmi : m < i := by omega
      have hmp : m < fu.params.length := by omega
      obtain ⟨g5, o5, hpa5, hcs5⟩ := CK.str HCr.out HSPP.out hmp;simp only [Option.some.injEq, Addr.mk.injEq, and_true] at hpa5;obtain ⟨rfl, rfl⟩ := hpa5;have lg5 := lt_cell hcs5;rw [List.drop_eq_getElem_cons hlt4, headP] at hh4;rw [List.getElem_take] at hh4;generalize fu.params[m] = t at *
      cases gk with
      | zero => omega
      | succ f3 =>
       by_cases heq : same t s = true
       ·rw [if_pos heq] at hh4;have heb : (t.toList == s.toList) = true := by rw [same_eq]; exact heq
        clear heq;obtain ⟨l_c, l_mf, l_ms, l_mn⟩ := HCr.out.lt;obtain ⟨l_F, xF_0, xF_1, xF_2, xF_3, xF_4, xF_5, xF_6, xF_7, yF_0, yF_1, yF_2, yF_3, yF_4, yF_5, yF_6, yF_7⟩ := cf8 RFwr.out
        go_wp2_with fail
        clear l_c l_F xF_0 xF_1 xF_2 xF_3 xF_4 xF_5 xF_6 xF_7 yF_0 yF_1 yF_2 yF_3 yF_4 yF_5 yF_6 yF_7 l_mf l_ms l_mn;refine (fault_same hK HCr.out fu.re fu.im 29).mono ?_;rintro r e61 ⟨rfl, hc, hs⟩;have off2_F := hs.off (h_lt RFwr.out) off_F;have Re61_F := zh (hs.at RFwr.out off_F);have off_F' := off2_F;have HCe61 := zh hc;have HSe61 := zh (HSr.out.trans hs);clear RFwr off_F HCr HSr hc hs;have off_F := off_F';clear off_F' off2_F;obtain ⟨l_c, l_mf, l_ms, l_mn⟩ := HCe61.out.lt;have l_F := h_lt Re61_F.out
        go_wp2_with fail
        go_roundg f3
        case measure => omega
        exact ⟨m + 1, by first | rfl | (simp; done) | (simp; omega), by omega, by omega, _, hh4, HCe61.out, HSe61.out, Re61_F.out⟩
       rw [if_neg heq] at hh4;simp only [Bool.not_eq_true] at heq;have heb : (t.toList == s.toList) = false := by rw [same_eq]; exact heq
       clear heq;obtain ⟨l_c, l_mf, l_ms, l_mn⟩ := HCr.out.lt;have l_F := h_lt RFwr.out
       go_wp2_with fail
       go_roundg f3
       case measure => omega
       exact ⟨m + 1, by first | rfl | (simp; done) | (simp; omega), by omega, by omega, _, hh4, HCr.out, HSr.out, RFwr.out⟩
     have hme : m = (fu.params.take i).length := by omega
     rw [hme, List.drop_length, headP] at hh4;obtain rfl : st6 = st5 := hh4;obtain ⟨fl, hfl⟩ : ∃ x, x = flook K.g s := ⟨_, rfl⟩;have HFL := zh hfl;rw [← hfl] at hh3;clear hfl hme
     cases hsp : specialF s with
     | true =>
      have HS7 := zh (show headPs K.g k fu (fu.params.take i ++ [s]) (fu.params.drop (i + 1)) (seePut (faultF st6 fu.re fu.im 28) (k + 1, s)) = st3 by rw [hsp] at hh3; simpa using hh3);clear hh3;obtain ⟨l_c, l_mf, l_ms, l_mn⟩ := HCr.out.lt;have l_F := h_lt RFwr.out
      go_wp2_with fail
      clear l_c l_F l_mf l_ms l_mn;refine (special_any s _).mono ?_;rintro r w' ⟨rfl, hw'⟩;rw [hw'];clear hw';obtain ⟨l_c, l_mf, l_ms, l_mn⟩ := HCr.out.lt;obtain ⟨l_F, xF_0, xF_1, xF_2, xF_3, xF_4, xF_5, xF_6, xF_7, yF_0, yF_1, yF_2, yF_3, yF_4, yF_5, yF_6, yF_7⟩ := cf8 RFwr.out
      go_wp2_with fail
      clear l_c l_F xF_0 xF_1 xF_2 xF_3 xF_4 xF_5 xF_6 xF_7 yF_0 yF_1 yF_2 yF_3 yF_4 yF_5 yF_6 yF_7 l_mf l_ms l_mn;exact qgd
     | false =>
      by_cases h0 : 0 < fl
      ·have HS7 := zh (show headPs K.g k fu (fu.params.take i ++ [s]) (fu.params.drop (i + 1)) (seePut (faultF st6 fu.re fu.im 28) (k + 1, s)) = st3 by rw [hsp] at hh3; simpa [h0] using hh3);have d0 : (0 : Int) < (fl : Int) := by omega
       have d1 : decide (0 < fl) = true := by simp [h0]
       clear hh3;obtain ⟨l_c, l_mf, l_ms, l_mn⟩ := HCr.out.lt;have l_F := h_lt RFwr.out
       go_wp2_with fail
       clear l_c l_F l_mf l_ms l_mn;refine (special_any s _).mono ?_;rintro r w' ⟨rfl, hw'⟩;rw [hw'];clear hw';obtain ⟨l_c, xc_0, xc_1, xc_2, xc_3, xc_4, xc_5, xc_6, xc_7, xc_8, xc_9, xc_10, yc_0, yc_1, yc_2, yc_3, yc_4, yc_5, yc_6, yc_7, yc_8, yc_9, yc_10⟩ := cf11 HCr.out.row;obtain ⟨-, l_mf, l_ms, l_mn⟩ := HCr.out.lt;obtain ⟨l_F, xF_0, xF_1, xF_2, xF_3, xF_4, xF_5, xF_6, xF_7, yF_0, yF_1, yF_2, yF_3, yF_4, yF_5, yF_6, yF_7⟩ := cf8 RFwr.out;have hlk := HCr.out.flook s (v := (fl : Int)) zeb
       go_wp2_with fail
       clear l_c xc_0 xc_1 xc_2 xc_3 xc_4 xc_5 xc_6 xc_7 xc_8 xc_9 xc_10 yc_0 yc_1 yc_2 yc_3 yc_4 yc_5 yc_6 yc_7 yc_8 yc_9 yc_10 l_F xF_0 xF_1 xF_2 xF_3 xF_4 xF_5 xF_6 xF_7 yF_0 yF_1 yF_2 yF_3 yF_4 yF_5 yF_6 yF_7 l_mf l_ms l_mn;exact qgd
      have hz : fl = 0 := by omega
      have HS7 := zh (show headPs K.g k fu (fu.params.take i ++ [s]) (fu.params.drop (i + 1)) (seePut st6 (k + 1, s)) = st3 by rw [hsp] at hh3; simpa [hz] using hh3);have d1 : decide (0 < fl) = false := by simp [hz]
      clear hh3 hz;obtain ⟨l_c, l_mf, l_ms, l_mn⟩ := HCr.out.lt;have l_F := h_lt RFwr.out
      go_wp2_with fail
      clear l_c l_F l_mf l_ms l_mn;refine (special_any s _).mono ?_;rintro r w' ⟨rfl, hw'⟩;rw [hw'];clear hw';obtain ⟨l_c, xc_0, xc_1, xc_2, xc_3, xc_4, xc_5, xc_6, xc_7, xc_8, xc_9, xc_10, yc_0, yc_1, yc_2, yc_3, yc_4, yc_5, yc_6, yc_7, yc_8, yc_9, yc_10⟩ := cf11 HCr.out.row;obtain ⟨-, l_mf, l_ms, l_mn⟩ := HCr.out.lt;have l_F := h_lt RFwr.out;have hlk := HCr.out.flook s (v := (fl : Int)) zeb;obtain ⟨es, ek, hes, hes2⟩ := HCr.out.seen;have HEB := zh hes; have HES := zh hes2;clear hes hes2;have hup : (Instr.mapUpdate 67 (.map (some K.mn)) (.agg #[.int .i64 ((k : Int) + 1), .string s]) (.agg #[])).run Tryz.prog wr = .ok () (mset wr K.mn (.map (ents tval (kput ((k + 1, s) : Thing) (.agg #[]) ek es).1) (kput ((k + 1, s) : Thing) (.agg #[]) ek es).2)) := run_see (K := K) (W := wr) HEB.out (k + 1) s
      go_wp2_with fail
      go_roundg f2
      case measure => omega
      refine inv_at (fun W => Keeps [K.mn] wr W ∧ W.heap[K.mn]? = some (.map (ents tval (kput ((k + 1, s) : Thing) (.agg #[]) ek es).1) (kput ((k + 1, s) : Thing) (.agg #[]) ek es).2)) ⟨zg, (qb HEB.out l_mn)⟩ ?_;rintro w61 ⟨Kw61, cw61_mn⟩;have Rw61_F := zh (Kw61.at RFwr.out (by simp [n_F_mn]));have HCw61 : Hid (CK K T ua uc (seePut (st6) (k + 1, s)) w61) := zh (HCr.out.see hK (k + 1, s) HES.out Kw61 cw61_mn);have HSw61 := zh (HSr.out.mn Kw61);have Rw61_mn := zh cw61_mn;clear Kw61 cw61_mn l_c xc_0 xc_1 xc_2 xc_3 xc_4 xc_5 xc_6 xc_7 xc_8 xc_9 xc_10 yc_0 yc_1 yc_2 yc_3 yc_4 yc_5 yc_6 yc_7 yc_8 yc_9 yc_10 l_F l_mf l_ms l_mn RFwr HCr HSr;exact ⟨i + 1, by first | rfl | (simp; done) | (simp; omega), by omega, by omega, _, by rw [HS6.out]; exact HS7.out, HCw61.out, HSw61.out, Rw61_F.out⟩
   have hie : i = fu.params.length := by omega
   rw [hie, List.drop_length, headPs] at hh3;obtain rfl : st4 = st3 := hh3
   rename World => wr
   have HCr := zh hc; have HSr := zh hs; have RFwr := zh hF;clear hc hs hF hie;obtain ⟨l_c, l_mf, l_ms, l_mn⟩ := HCr.out.lt;have l_F := h_lt RFwr.out
   go_wp2_with fail
   go_roundg f
   case measure => omega
   exact ⟨k + 1, by first | rfl | (simp; done) | (simp; omega), by omega, by omega, _, hh, HCr.out, HSr.out⟩
 have hke : k = K.g.funcs.length := by omega
 rw [hke, List.drop_length, headsA] at hh;obtain rfl : st1 = st' := hh
 rename World => wr
 have HCr := zh hc; have HSr := zh hs;clear hc hs hke;obtain ⟨l_c, l_mf, l_ms, l_mn⟩ := HCr.out.lt
 go_wp2_with fail
 refine end_at (v := .tuple #[]) (fun W => Keeps [] wr W) zg (fun w21 hW => ?_) rfl (fun w21 hW => ?_)
 ·have Kw21 : Keeps [] wr w21 := hW;exact jnb
 have Kw21 : Keeps [] wr w21 := hW;have HCw21 := zh (HCr.out.kp0 Kw21);have HSw21 := zh (HSr.out.loc Kw21 jg);clear Kw21 l_c l_mf l_ms l_mn HCr HSr;exact ⟨_, _, _, rfl, HCw21.out⟩
def KidLoop (K : CKey) (rec : NRec) (kids : List Node) (st' : NS) (T0 : Nat → Prop) (w : World) (B : Nat) (ob : Obj) (g : Nat) (j : Value) (W : World) : Prop :=
 ∃ k : Nat, j = .int .i64 k ∧ k ≤ kids.length ∧ g + k = kids.length + 1 ∧ ∃ st T ua uc, kidsF rec (kids.drop k) st = some st' ∧ CK K T ua uc st W ∧ CStep K T0 T w W ∧ W.heap[B]? = some ob ∧ Off K T B
theorem countP_lt {p p' : Nat → Bool} (h : ∀ k, p' k = true → p k = true) {i : Nat} (hp : p i = true) (hp' : p' i = false) : ∀ l : List Nat, i ∈ l → l.countP p' < l.countP p
 | [], hm => by cases hm
 | x :: l, hm => by
   have hle : l.countP p' ≤ l.countP p := List.countP_mono_left fun k _ hk => h k hk
   rw [List.countP_cons, List.countP_cons]
   rcases List.mem_cons.1 hm with rfl | hm
   ·rw [hp, hp']; simp; omega
   have := countP_lt h hp hp' l hm
   by_cases hx : p' x = true
   ·rw [hx, h x hx]; omega
   simp only [Bool.not_eq_true] at hx;rw [hx]; simp; split <;> omega
def nOpen (n : Nat) (L : Array Bool) : Nat := (List.range n).countP fun i => !L.getD i true
theorem wpAny_inv {P : Program} {md : Region.Mode} {ops : Array Oper} {Q : Exit → Act → World → Prop} (I : Array Bool → Act → World → Prop)
  (hdone : ∀ L a w, I L a w → Region.ready md ops L = [] → Q .normal a w)
  (hstep : ∀ L a w, I L a w → ∀ i ∈ Region.ready md ops L, wpOp P ops Q i (I (L.setIfInBounds i true)) a w) :
  ∀ (fuel : Nat) (L : Array Bool) (a : Act) (w : World), nOpen ops.size L ≤ fuel → I L a w → wpAny P md ops Q fuel L a w
 | 0, L, a, w, hn, h => by
   have hr : Region.ready md ops L = [] := by
    rw [List.eq_nil_iff_forall_not_mem];intro i hi;have h1 := (mem_ready.1 hi).1;have h2 : i ∈ List.range ops.size := by unfold Region.ready at hi; exact (List.mem_filter.1 hi).1
    have h0 : nOpen ops.size L = 0 := by omega
    unfold nOpen at h0;rw [List.countP_eq_zero] at h0;exact absurd (h0 i h2) (by rw [h1]; simp)
   exact ⟨hr, hdone L a w h hr⟩
 | fuel + 1, L, a, w, hn, h => by
   refine ⟨fun hr => hdone L a w h hr, fun i hi => wpOp_mono (fun a' w' h' => wpAny_inv I hdone hstep fuel _ a' w' ?_ h') (hstep L a w h i hi)⟩;have h1 := (mem_ready.1 hi).1;have h2 : i ∈ List.range ops.size := by unfold Region.ready at hi; exact (List.mem_filter.1 hi).1
   have hlt : nOpen ops.size (L.setIfInBounds i true) < nOpen ops.size L := by
    unfold nOpen;refine countP_lt (i := i) (fun k hk => ?_) (by rw [h1]; rfl) ?_ _ h2
    ·by_cases hki : k = i
     ·subst hki; rw [h1]; rfl
     simp only [Array.getD_eq_getD_getElem?, Array.getElem?_setIfInBounds, Ne.symm hki, if_false] at hk
     simpa [Array.getD_eq_getD_getElem?] using hk
    have hL : i < L.size := by
     by_cases hl : i < L.size
     ·exact hl
     simp [Array.getD_eq_getD_getElem?, Array.getElem?_eq_none (Nat.not_lt.1 hl)] at h1
    simp [Array.getD_eq_getD_getElem?, hL]
   omega
theorem wp_region_inv {P : Program} {ops : Array Oper} {Q : Exit → Act → World → Prop} {id : Nat} {a : Act} {w : World} (hm : P.follows .mixedOrders = true) (I : Array Bool → Act → World → Prop)
  (h0 : I (Array.replicate ops.size false) a w.drew)
  (hdone : ∀ L a w, I L a w → Region.ready .any ops L = [] → Q .normal a w)
  (hstep : ∀ L a w, I L a w → ∀ i ∈ Region.ready .any ops L, wpOp P ops Q i (I (L.setIfInBounds i true)) a w) : (Code.region id ops true).wp P Q a w :=
 wp_region_any hm (wpAny_inv I hdone hstep _ _ _ _ (by unfold nOpen; exact Nat.le_trans (List.countP_le_length) jg) h0)
theorem wpOp_val {P : Program} {ops : Array Oper} {Q : Exit → Act → World → Prop} {i : Nat} {K : Act → World → Prop} {a : Act} {w w' : World} {o : Oper} {v : Value} (hi : ops[i]? = some o) (hg : o.guard = none) (hrun : (execOp a.eval o).run P w = .ok (.value v) w') (h : K (a.put o.dst v) w') : wpOp P ops Q i K a w := by
 unfold wpOp;rw [hi];simp only [Region.wanted, hg, if_true]
 left
 unfold Oper.wp;rw [hrun];exact h
theorem wpOp_skip {P : Program} {ops : Array Oper} {Q : Exit → Act → World → Prop} {i : Nat} {K : Act → World → Prop} {a : Act} {w w' : World} {o : Oper} (hi : ops[i]? = some o) (hg : o.guard = none) (hd : o.dst = none) (hrun : (execOp a.eval o).run P w = .ok .skip w') (h : K a w') : wpOp P ops Q i K a w := by
 unfold wpOp;rw [hi];simp only [Region.wanted, hg, if_true]
 left
 unfold Oper.wp;rw [hrun];show K (a.put o.dst undef) w';rw [hd];exact h
theorem wpOp_call {P : Program} {ops : Array Oper} {Q : Exit → Act → World → Prop} {i : Nat} {K : Act → World → Prop} {a : Act} {w : World} {o : Oper} {f : FuncId} {vals : Array Value} (hi : ops[i]? = some o) (hg : o.guard = none) (hrun : (execOp a.eval o).run P w = .ok (.enter f vals) w) {R : Value → World → Prop} (hc : Calls P f vals w fun e w' => ∃ v, e = .returned v ∧ R v w') (hK : ∀ v w', R v w' → K (a.put o.dst v) w') : wpOp P ops Q i K a w := by
 unfold wpOp;rw [hi];simp only [Region.wanted, hg, if_true]
 left
 unfold Oper.wp;rw [hrun, Oper.upon_enter];exact jkb
end Go.Proofs.YtkfillfkbhbbjaaGreatDoor
