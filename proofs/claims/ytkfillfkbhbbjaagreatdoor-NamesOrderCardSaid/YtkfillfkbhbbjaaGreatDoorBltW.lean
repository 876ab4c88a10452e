/- BltW. -/
import Derived.Test.YtkfillfkbhbbjaaGreatDoorLeav
set_option maxRecDepth 100000
set_option maxHeartbeats 4000000
set_option linter.unusedSimpArgs false
set_option linter.unusedVariables false
namespace Go.Proofs.YtkfillfkbhbbjaaGreatDoor
open Go.RowKit
def BltJ (K : CKey) (T : Nat → Prop) (w : World) (s3 : NS) (B : Nat) (ob : Obj) (W : World) : Prop :=
 ∃ T' ua' uc', CK K T' ua' uc' s3 W ∧ CStep K T T' w W ∧ W.heap[B]? = some ob ∧ Off K T' B
def BltM (K : CKey) (T : Nat → Prop) (w : World) (tx : ByteArray) (st : NS) (kids : List Node) (B : Nat) (ob : Obj) (s6 : Value) (W : World) : Prop :=
 s6 = .int .i64 (arrAt tx) ∧ ∃ T' ua' uc', CK K T' ua' uc' (subF tx st kids) W ∧ CStep K T T' w W ∧ W.heap[B]? = some ob ∧ Off K T' B
def BltI (K : CKey) (rec : NRec) (arr : Int) (kids : List Node) (st' : NS) (T0 : Nat → Prop) (w : World) (B : Nat) (ob : Obj) (g : Nat) (j : Value) (W : World) : Prop :=
 ∃ k : Nat, j = .int .i64 k ∧ k ≤ kids.length ∧ g + k = kids.length + 1 ∧ ∃ st T ua uc, bltF K.g rec arr k (kids.drop k) st = some st' ∧ CK K T ua uc st W ∧ CStep K T0 T w W ∧ W.heap[B]? = some ob ∧ Off K T B
theorem arrAt_cases (s : ByteArray) : arrAt s = 1 ∨ arrAt s = 0 ∨ arrAt s = -1 := by
 unfold arrAt
 split
 ·exact .inl rfl
 split
 ·exact .inr (.inl rfl)
 exact .inr (.inr rfl)
theorem subF_three {nm : ByteArray} {st : NS} {kids : List Node} (h : kids.length = 3) (hn : nm = nSub ∨ nm = nGsub) : subF nm st kids = if lval (kids[2]'qg) = false then faultF st (kids[2]'qg).re (kids[2]'qg).im 31 else st := by
 match kids, h with
 | [a, b, c], _ => simp only [subF, hn, true_and, List.getElem_cons_succ, List.getElem_cons_zero]
theorem subF_not {nm : ByteArray} {st : NS} {kids : List Node} (h : ¬ kids.length = 3) : subF nm st kids = st := by
 match kids, h with
 | [], _ => rfl
 | [_], _ => rfl
 | [_, _], _ => rfl
 | [_, _, _], h => exact absurd rfl h
 | _ :: _ :: _ :: _ :: _, _ => rfl
theorem subF_no {nm : ByteArray} {st : NS} {kids : List Node} (h : ¬ (nm = nSub ∨ nm = nGsub)) : subF nm st kids = st := by
 unfold subF; split
 ·rw [if_neg (fun k => h k.1)]
 rfl
theorem lval_no {k : Node} (h : lval k = false) : ¬ k.kind = 4 ∧ ¬ k.kind = 5 ∧ ¬ k.kind = 6 := by
 unfold lval at h;simp only [Bool.or_eq_false_iff, beq_eq_false_iff_ne] at h;exact ⟨h.1.1, h.1.2, h.2⟩
theorem lval_yes {k : Node} (h : ¬ lval k = false) : (k.kind != 4) = false ∨ ((k.kind != 4) = true ∧ (k.kind != 5) = false) ∨ ((k.kind != 4) = true ∧ (k.kind != 5) = true ∧ (k.kind != 6) = false) := by
 unfold lval at h
 by_cases h4 : k.kind = 4
 ·exact .inl (by simp [h4])
 by_cases h5 : k.kind = 5
 ·exact .inr (.inl ⟨by simp [h4], by simp [h5]⟩)
 by_cases h6 : k.kind = 6
 ·exact .inr (.inr ⟨by simp [h4], by simp [h5], by simp [h6]⟩)
 exact absurd (by simp [h4, h5, h6]) h
theorem neq_list {s : ByteArray} {l : List UInt8} (h : ¬ s = ⟨l.toArray⟩) : (s.toList == l) = false := by
 cases hs : same s (bs l) with
 | false => exact same_false hs
 | true => exact absurd (same_lit hs) h
set_option maxHeartbeats 40000000 in
theorem built_w {K : CKey} (hK : CFix K) {T : Nat → Prop} {ua : Option Addr} {uc : Nat} {st : NS} {w : World} (h : CK K T ua uc st w) (kd : Int) (tx : ByteArray) (fm : Nat) (na : Option Addr) (nc re im : Nat) (kids : List Node) {rec : NRec} {c1 c2 : Nat} {st' : NS} (hcn : countsF tx = (c1, c2)) (hn : ¬ kids.length < c1) (hm : ¬ c2 < kids.length) (hkl : kids.length ≤ 1000000) (hkd : KidsR K.w0 (fun _ => True) kids (.slice na kids.length nc)) (hrec : NodeC K rec) (hnl : tx = ⟨#[108, 101, 110, 103, 116, 104]⟩ → ∀ h : kids.length = 1, (kids[0].kind == 4) = false) (hcf : bltF K.g rec (arrAt tx) 0 kids (subF tx st kids) = some st') : Calls Tryz.prog 77 #[.pointer (some ⟨K.c, 0, none⟩), .agg #[.int .i64 kd, .string tx, .float .f64 fm, .slice na kids.length nc, .complex .f64 re im]] w fun r w' => ∃ T' ua' uc', r = .returned (.tuple #[]) ∧ CK K T' ua' uc' (st') w' ∧ CStep K T T' w w' := by
 have d1 : ¬ ((kids.length : Int) < (c1 : Int)) := by omega
 have d2 : decide (kids.length < c1) = false := by simp; omega
 have d3 : ¬ ((c2 : Int) < (kids.length : Int)) := by omega
 have d4 : decide (c2 < kids.length) = false := by simp; omega
 have HKD := zh hkd; have HREC := zh hrec; have HCF := zh hcf;clear hkd hrec hcf hn hm;have HC0 := zh h; have HS0 := zh (CStep.refl K T w);clear h
 go_enter Tryz.func77, Tryz.ntmps77
 obtain ⟨l_c, l_mf, l_ms, l_mn⟩ := HC0.out.lt
 go_wp2_with fail
 refine jrc ?_;rintro w1 ⟨Kw1, cw1_B⟩;have ⟨n_c_B, n_B_c⟩ := zne l_c;have ⟨n_mf_B, n_B_mf⟩ := zne l_mf;have ⟨n_ms_B, n_B_ms⟩ := zne l_ms;have ⟨n_mn_B, n_B_mn⟩ := zne l_mn;have o_B : w.heap.size ≤ w.heap.size := Nat.le_refl _;have off_B : Off K T (w.heap.size) := off_new HC0.out (Nat.le_refl _);have o0_B : K.w0.heap.size ≤ w.heap.size := Nat.le_trans HC0.out.keep.size (Nat.le_refl _);have HCw1 := zh (HC0.out.kp0 Kw1);have HSw1 := zh (HS0.out.loc Kw1 jg);have Rw1_B := zh cw1_B;clear Kw1 cw1_B l_c l_mf l_ms l_mn HC0 HS0;refine (counts_at hcn _).mono ?_;rintro r w' ⟨rfl, hw'⟩;rw [hw'];clear hw';obtain ⟨l_c, l_mf, l_ms, l_mn⟩ := HCw1.out.lt;obtain ⟨l_B, xB_0, xB_1, xB_2, xB_3, xB_4, yB_0, yB_1, yB_2, yB_3, yB_4⟩ := cf5 Rw1_B.out
 go_upto_block 0 with fail
 clear l_c l_B xB_0 xB_1 xB_2 xB_3 xB_4 yB_0 yB_1 yB_2 yB_3 yB_4 l_mf l_ms l_mn
 go_cut [6] (fun s6 W => BltM K T w tx st kids (w.heap.size) (.cells #[.int .i64 kd, .string tx, .float .f64 fm, .slice na kids.length nc, .complex .f64 re im] 50 (0, 0)) s6 W)
 case first =>
  clear HREC HCF
  by_cases hx : tx = ⟨#[115, 117, 98]⟩
  ·obtain rfl : tx = ⟨#[115, 117, 98]⟩ := hx;have ha0 : arrAt ⟨#[115, 117, 98]⟩ = -1 := by decide
   by_cases h3 : kids.length = 3
   ·have d5 : ((kids.length : Int) == 3) = true := by simp [h3]
    have hlt : 2 < kids.length := by omega
    obtain ⟨g3, o3, fm3, na3, nc3, hna, kc0, kc1, kc2, kc3, kc4, hkn⟩ := CK.kid HCw1.out HKD.out hlt;subst hna;have lg3 : g3 < w1.heap.size := lt_cell kc0;have d6 : (2 : Int) < (kids.length : Int) := by omega
    have hs1 : subF ⟨#[115, 117, 98]⟩ st kids = if lval kids[2] = false then faultF st kids[2].re kids[2].im 31 else st := subF_three h3 zi
    clear h3;generalize kids[2] = kk at *
    by_cases hlv : lval kk = false
    ·have hs0 : subF ⟨#[115, 117, 98]⟩ st kids = faultF st kk.re kk.im 31 := by rw [hs1, if_pos hlv]
     exact qed
    have hs0 : subF ⟨#[115, 117, 98]⟩ st kids = st := by rw [hs1, if_neg hlv]
    exact zid
   have d5 : ((kids.length : Int) == 3) = false := by simp; omega
   have hs0 : subF ⟨#[115, 117, 98]⟩ st kids = st := subF_not h3;clear h3;exact qid
  have hx_sub := hx;clear hx
  by_cases hx : tx = ⟨#[103, 115, 117, 98]⟩
  ·obtain rfl : tx = ⟨#[103, 115, 117, 98]⟩ := hx;have ha0 : arrAt ⟨#[103, 115, 117, 98]⟩ = -1 := by decide
   by_cases h3 : kids.length = 3
   ·have d5 : ((kids.length : Int) == 3) = true := by simp [h3]
    have hlt : 2 < kids.length := by omega
    obtain ⟨g3, o3, fm3, na3, nc3, hna, kc0, kc1, kc2, kc3, kc4, hkn⟩ := CK.kid HCw1.out HKD.out hlt;subst hna;have lg3 : g3 < w1.heap.size := lt_cell kc0;have d6 : (2 : Int) < (kids.length : Int) := by omega
    have hs1 : subF ⟨#[103, 115, 117, 98]⟩ st kids = if lval kids[2] = false then faultF st kids[2].re kids[2].im 31 else st := subF_three h3 zi
    clear h3;generalize kids[2] = kk at *
    by_cases hlv : lval kk = false
    ·have hs0 : subF ⟨#[103, 115, 117, 98]⟩ st kids = faultF st kk.re kk.im 31 := by rw [hs1, if_pos hlv]
     exact qed
    have hs0 : subF ⟨#[103, 115, 117, 98]⟩ st kids = st := by rw [hs1, if_neg hlv]
    exact zid
   have d5 : ((kids.length : Int) == 3) = false := by simp; omega
   have hs0 : subF ⟨#[103, 115, 117, 98]⟩ st kids = st := subF_not h3;clear h3;exact qid
  have hx_gsub := hx;clear hx
  by_cases hx : tx = ⟨#[108, 101, 110, 103, 116, 104]⟩
  ·obtain rfl : tx = ⟨#[108, 101, 110, 103, 116, 104]⟩ := hx;have ha0 : arrAt ⟨#[108, 101, 110, 103, 116, 104]⟩ = -1 := by decide
   have hs0 : subF ⟨#[108, 101, 110, 103, 116, 104]⟩ st kids = st := subF_no zi
   by_cases h1 : kids.length = 1
   ·have hlt : 0 < kids.length := by omega
    have d5 : ((kids.length : Int) == 1) = true := by simp [h1]
    obtain ⟨g3, o3, fm3, na3, nc3, hna, kc0, kc1, kc2, kc3, kc4, hkn⟩ := CK.kid HCw1.out HKD.out hlt;subst hna;have lg3 : g3 < w1.heap.size := lt_cell kc0;have d6 : (0 : Int) < (kids.length : Int) := by omega
    have q4 : (kids[0].kind == 4) = false := hnl rfl h1;clear h1;simp only [Nat.zero_mul, Nat.add_zero] at kc0;exact qid
   have d5 : ((kids.length : Int) == 1) = false := by simp; omega
   clear h1;exact qid
  have hx_length := hx;clear hx
  by_cases hx : tx = ⟨#[115, 112, 108, 105, 116]⟩
  ·obtain rfl : tx = ⟨#[115, 112, 108, 105, 116]⟩ := hx;have ha0 : arrAt ⟨#[115, 112, 108, 105, 116]⟩ = 1 := by decide
   have hs0 : subF ⟨#[115, 112, 108, 105, 116]⟩ st kids = st := subF_no zi;exact qid
  have hx_split := hx;clear hx
  by_cases hx : tx = ⟨#[101, 120, 112, 105, 114, 101]⟩
  ·obtain rfl : tx = ⟨#[101, 120, 112, 105, 114, 101]⟩ := hx;have ha0 : arrAt ⟨#[101, 120, 112, 105, 114, 101]⟩ = 0 := by decide
   have hs0 : subF ⟨#[101, 120, 112, 105, 114, 101]⟩ st kids = st := subF_no zi;exact qid
  have hx_expire := hx;clear hx;have ha0 : arrAt tx = -1 := by unfold arrAt; rw [if_neg (show ¬ tx = nSplit from hx_split), if_neg (show ¬ tx = nExpire from hx_expire)]
  have hs0 : subF tx st kids = st := subF_no (fun h => h.elim hx_sub hx_gsub);have z_sub : (tx.toList == [115, 117, 98]) = false := neq_list hx_sub;have z_gsub : (tx.toList == [103, 115, 117, 98]) = false := neq_list hx_gsub;have z_length : (tx.toList == [108, 101, 110, 103, 116, 104]) = false := neq_list hx_length;have z_split : (tx.toList == [115, 112, 108, 105, 116]) = false := neq_list hx_split;have z_expire : (tx.toList == [101, 120, 112, 105, 114, 101]) = false := neq_list hx_expire;clear hx_sub hx_gsub hx_length hx_split hx_expire;exact qid
 obtain ⟨rfl, T1, ua1, uc1, hc, hs, hB, off_B⟩ := hcut;generalize wc = wl at *
 have HCl := zh hc; have HSl := zh hs; have RBl := zh hB;clear hc hs hB hnl HCw1 HSw1 Rw1_B;obtain ⟨arr, harr⟩ : ∃ a, a = arrAt tx := ⟨_, rfl⟩;have har3 : arr = 1 ∨ arr = 0 ∨ arr = -1 := by rw [harr]; exact arrAt_cases tx
 have hcf0 := HCF.out;rw [← harr] at hcf0 ⊢;have HCF2 := zh hcf0;clear hcf0 HCF harr;obtain ⟨l_c, l_mf, l_ms, l_mn⟩ := HCl.out.lt;obtain ⟨l_B, xB_0, xB_1, xB_2, xB_3, xB_4, yB_0, yB_1, yB_2, yB_3, yB_4⟩ := cf5 RBl.out
 go_wp2_with fail
 clear l_c l_B xB_0 xB_1 xB_2 xB_3 xB_4 yB_0 yB_1 yB_2 yB_3 yB_4 l_mf l_ms l_mn
 go_loopg [96] (kids.length + 1) (fun g j wr => BltI K rec arr kids st' T w (w.heap.size) (.cells #[.int .i64 kd, .string tx, .float .f64 fm, .slice na kids.length nc, .complex .f64 re im] 50 (0, 0)) g j wr)
 case atStart => exact ⟨0, rfl, Nat.zero_le _, rfl, _, _, _, _, HCF2.out, HCl.out, HSl.out, RBl.out, off_B⟩
 obtain ⟨k, rfl, hk1, hk2, st2, T2, ua2, uc2, hcf, hc, hs, hB, off_B⟩ := hrel;have HCr := zh hc; have HSr := zh hs; have RB := zh hB;clear hc hs hB
 by_cases hlt : k < kids.length
 ·obtain ⟨g3, o3, fm3, na3, nc3, hna, kc0, kc1, kc2, kc3, kc4, hkn⟩ := CK.kid HCr.out HKD.out hlt;subst hna;have lg3 : g3 < wr.heap.size := lt_cell kc0;rw [List.drop_eq_getElem_cons hlt, bltF] at hcf;generalize kids[k] = kk at *
  simp only [Option.bind_eq_bind, Option.bind_eq_some_iff] at hcf;obtain ⟨s3, hr, hcf⟩ := hcf
  cases gk with
  | zero => omega
  | succ f =>
   go_upto_block 2 with fail
   go_cut [] (fun W => BltJ K T2 wr s3 (w.heap.size) (.cells #[.int .i64 kd, .string tx, .float .f64 fm, .slice (some ⟨g3, o3, none⟩) kids.length nc, .complex .f64 re im] 50 (0, 0)) W)
   case first =>
    clear hcf
    by_cases hka : (k : Int) = arr
    ·rw [if_pos hka] at hr;unfold arrF at hr;subst hka
     by_cases h4 : kk.kind = 4
     ·rw [if_pos h4] at hr;have t2 : (kk.kind == 4) = true := by simp [h4]
      clear h4
      focus
       obtain ⟨l_c, l_mf, l_ms, l_mn⟩ := HCr.out.lt;obtain ⟨l_B, xB_0, xB_1, xB_2, xB_3, xB_4, yB_0, yB_1, yB_2, yB_3, yB_4⟩ := cf5 RB.out;have HSz := zh (CStep.refl K T2 wr)
       go_wp2_with fail
       refine qlc ?_;rintro w51 ⟨Kw51, cw51_Kd⟩;have ⟨n_c_Kd, n_Kd_c⟩ := zne l_c;have ⟨n_mf_Kd, n_Kd_mf⟩ := zne l_mf;have ⟨n_ms_Kd, n_Kd_ms⟩ := zne l_ms;have ⟨n_mn_Kd, n_Kd_mn⟩ := zne l_mn;have ⟨n_B_Kd, n_Kd_B⟩ := zne l_B;have o_Kd : wr.heap.size ≤ wr.heap.size := Nat.le_refl _;have off_Kd : Off K T2 (wr.heap.size) := off_new HCr.out (Nat.le_refl _);have o0_Kd : K.w0.heap.size ≤ wr.heap.size := Nat.le_trans HCr.out.keep.size (Nat.le_refl _);have Rw51_B := zh (Kw51.at RB.out jg);have HCw51 := zh (HCr.out.kp0 Kw51);have HSw51 := zh (HSz.out.loc Kw51 jg);have Rw51_Kd := zh cw51_Kd;clear Kw51 cw51_Kd l_c l_B xB_0 xB_1 xB_2 xB_3 xB_4 yB_0 yB_1 yB_2 yB_3 yB_4 l_mf l_ms l_mn RB HCr HSz;refine (named_any hK HCw51.out hkn).mono ?_;rintro r e52 ⟨T52, ua52, uc52, rfl, hc, hs⟩;have off2_B := hs.off (h_lt Rw51_B.out) off_B;have Re52_B := zh (hs.at Rw51_B.out off_B);have off2_Kd := hs.off (h_lt Rw51_Kd.out) off_Kd;have Re52_Kd := zh (hs.at Rw51_Kd.out off_Kd);have off_B' := off2_B;have off_Kd' := off2_Kd;have HCe52 := zh hc;have HSe52 := zh (HSw51.out.trans hs);clear Rw51_B off_B Rw51_Kd off_Kd HCw51 HSw51 hc hs;have off_B := off_B';clear off_B' off2_B;have off_Kd := off_Kd';clear off_Kd' off2_Kd;obtain ⟨l_c, xc_0, xc_1, xc_2, xc_3, xc_4, xc_5, xc_6, xc_7, xc_8, xc_9, xc_10, yc_0, yc_1, yc_2, yc_3, yc_4, yc_5, yc_6, yc_7, yc_8, yc_9, yc_10⟩ := cf11 HCe52.out.row;obtain ⟨-, l_mf, l_ms, l_mn⟩ := HCe52.out.lt;have l_B := h_lt Re52_B.out
       obtain ⟨l_Kd, xKd_0, xKd_1, xKd_2, xKd_3, xKd_4, yKd_0, yKd_1, yKd_2, yKd_3, yKd_4⟩ := cf5 Re52_Kd.out;obtain ⟨oo, hoo⟩ : ∃ x, x = ofF K.g (namedF K.g st2 kk) kk.name := ⟨_, rfl⟩;rw [← hoo] at hr;obtain ⟨hul, rfl⟩ := useF_some hr;have HUL := zh hul; have HOO := zh hoo;clear hul hoo hr
       go_upto_region 29 with fail
       obtain ⟨i1, hi1, hi2, hi3, hi4⟩ := info106;have HI := zh (And.intro hi1 (And.intro hi2 (And.intro hi3 hi4)));clear hi1 hi2 hi3 hi4;have HOF := zh (of_at hK HCe52.out kk.name);rw [← HOO.out] at HOF;have hul0 : (namedF K.g st2 kk).uses.length = (oo).2.uses.length := by rw [HOO.out, ofF_uses]
       try clear hcf
       try clear kc0
       try clear kc1
       try clear kc2
       try clear kc3
       try clear kc4
       try clear hcs
       try clear hcp
       try clear hlk
       try clear HREC
       try clear HKD
       try clear HSP
       try clear HFA
       try clear HFN
       try clear HFI
       try clear HCF
       try clear hkn
       try clear hm
       try clear hkl
       try clear hlt
       try clear hlt2
       try clear lg2
       try clear lg3
       try clear e4
       try clear e5
       try clear hk1
       try clear hi
       try clear o0_B
       try clear o_B
       try clear n_c_B
       try clear n_mf_B
       try clear n_ms_B
       try clear n_mn_B
       try clear n_Kd_B
       try clear n_B_c
       try clear n_B_mf
       try clear n_B_ms
       try clear n_B_mn
       try clear n_B_Kd
       try clear o0_Kd
       try clear o_Kd
       try clear n_c_Kd
       try clear n_mf_Kd
       try clear n_ms_Kd
       try clear n_mn_Kd
       try clear n_Kd_c
       try clear n_Kd_mf
       try clear n_Kd_ms
       try clear n_Kd_mn
       try clear e19
       try clear e20
       try clear e11
       try clear e41
       try clear e32
       try clear e33
       try clear e34
       try clear e35
       try clear e4
       try clear e5
       try clear f19
       try clear f20
       try clear f11
       try clear f41
       try clear f32
       try clear f33
       try clear f34
       try clear f35
       try clear f4
       try clear f5
       try clear HNR
       go_region_law (first | ((fail_if_success (have hm9 := hcu)); refine step_call (f := 75) (vals := #[.pointer (some ⟨K.c, 0, none⟩), .string kk.name]) rfl _ rfl jh (HOF.out _ zg) ?_; rintro v u_ ⟨rfl, hcu, hsu⟩; have l_c2 := h_lt hcu.row; have q0 := cell_of_heap hcu.row 0; have q1 := cell_of_heap hcu.row 1; have q2 := cell_of_heap hcu.row 2; have q3 := cell_of_heap hcu.row 3; have q4 := cell_of_heap hcu.row 4; have q5 := cell_of_heap hcu.row 5; have q6 := cell_of_heap hcu.row 6; have q7 := cell_of_heap hcu.row 7; have q8 := cell_of_heap hcu.row 8; have q9 := cell_of_heap hcu.row 9; have q10 := cell_of_heap hcu.row 10; simp at q0 q1 q2 q3 q4 q5 q6 q7 q8 q9 q10; have r_Kd := hsu.at Re52_Kd.out off_Kd; have lr_Kd := h_lt r_Kd; have zKd_0 := cell_of_heap r_Kd 0; have zKd_1 := cell_of_heap r_Kd 1; have zKd_2 := cell_of_heap r_Kd 2; have zKd_3 := cell_of_heap r_Kd 3; have zKd_4 := cell_of_heap r_Kd 4; simp at zKd_0 zKd_1 zKd_2 zKd_3 zKd_4) | (refine step_at (fun W => Keeps [] u_ W ∧ W.heap[u_.heap.size]? = some (.cells #[.complex .f64 kk.re kk.im, .int .i64 oo.1.1, .string oo.1.2, .bool true, .int .i64 0, .string ⟨#[]⟩, .bool false, .bool false] 106 (0, 0))) ⟨zg, jd⟩ ?_; rintro wq ⟨hkq, cG⟩; refine step_appL useL rfl (.tmp 134) (.tmp 142) 68 rfl Tryz.underlying68 HI.out.1 HI.out.2.1 HI.out.2.2.1 HI.out.2.2.2 rfl zi zi rfl rfl (hcu.kp0 hkq).uses (c := [.complex .f64 kk.re kk.im, .int .i64 oo.1.1, .string oo.1.2, .bool true, .int .i64 0, .string ⟨#[]⟩, .bool false, .bool false]) cG (x := (⟨kk.re, kk.im, oo.1, true, noT, false, false⟩ : Use)) (S := fun _ => False) rfl (fun _ h => h.elim) (fun _ h => h.elim) (hcu.kp0 hkq).up (hcu.kp0 hkq).keep.size (Nat.le_of_lt HUL.out) ?_; rintro va wa fl hfl hka hown; obtain ⟨ka2, kc2, hva, -⟩ := hown.slice; obtain ⟨kn, hkn⟩ : ∃ k, k = ((oo.2).uses ++ [(⟨kk.re, kk.im, oo.1, true, noT, false, false⟩ : Use)]).length := ⟨_, rfl⟩; rw [← hkn] at hva; subst hva; have HKN := zh hkn; clear hkn; have r_c := hka.at (hcu.kp0 hkq).row (fun h => (hcu.kp0 hkq).ns.1 (hfl _ h)); have lw_c := h_lt r_c; have z0 := cell_of_heap r_c 0; have z1 := cell_of_heap r_c 1; have z2 := cell_of_heap r_c 2; have z3 := cell_of_heap r_c 3; have z4 := cell_of_heap r_c 4; have z5 := cell_of_heap r_c 5; have z6 := cell_of_heap r_c 6; have z7 := cell_of_heap r_c 7; have z8 := cell_of_heap r_c 8; have z9 := cell_of_heap r_c 9; have z10 := cell_of_heap r_c 10; have zf0 := frozen_of_heap r_c 0; have zf1 := frozen_of_heap r_c 1; have zf2 := frozen_of_heap r_c 2; have zf3 := frozen_of_heap r_c 3; have zf4 := frozen_of_heap r_c 4; have zf5 := frozen_of_heap r_c 5; have zf6 := frozen_of_heap r_c 6; have zf7 := frozen_of_heap r_c 7; have zf8 := frozen_of_heap r_c 8; have zf9 := frozen_of_heap r_c 9; have zf10 := frozen_of_heap r_c 10; simp at z0 z1 z2 z3 z4 z5 z6 z7 z8 z9 z10))
       all_goals
        go_wp2_with fail
        go_meet
        have hkn := HKN.out;subst hkn;exact CK.app' hK HSe52.out Re52_B.out off_B hsu hcu hkq hfl hka hown zg (za r_c)
     rw [if_neg h4] at hr;simp only [Option.bind_eq_bind, Option.bind_eq_some_iff] at hr;obtain ⟨s2, hu1, hr⟩ := hr;have t2 : (kk.kind == 4) = false := beq_false_of_ne h4;clear h4
     focus
      obtain ⟨l_c, l_mf, l_ms, l_mn⟩ := HCr.out.lt;obtain ⟨l_B, xB_0, xB_1, xB_2, xB_3, xB_4, yB_0, yB_1, yB_2, yB_3, yB_4⟩ := cf5 RB.out;have HSz := zh (CStep.refl K T2 wr);obtain ⟨hul, rfl⟩ := useF_some hu1;have HUL := zh hul;clear hul hu1
      go_upto_region 23 with fail
      refine wp_at (fun W => Keeps [] wr W ∧ W.heap[wr.heap.size]? = some (.cells #[.int .i64 kk.kind, .string kk.name, .float .f64 fm3, .slice na3 kk.kids.length nc3, .complex .f64 kk.re kk.im] 50 (0, 0))) ⟨zg, zb⟩ ?_;rintro w51 ⟨Kw51, cw51_Kd⟩;have ⟨n_c_Kd, n_Kd_c⟩ := zne l_c;have ⟨n_mf_Kd, n_Kd_mf⟩ := zne l_mf;have ⟨n_ms_Kd, n_Kd_ms⟩ := zne l_ms;have ⟨n_mn_Kd, n_Kd_mn⟩ := zne l_mn;have ⟨n_B_Kd, n_Kd_B⟩ := zne l_B;have o_Kd : wr.heap.size ≤ wr.heap.size := Nat.le_refl _;have off_Kd : Off K T2 (wr.heap.size) := off_new HCr.out (Nat.le_refl _);have o0_Kd : K.w0.heap.size ≤ wr.heap.size := Nat.le_trans HCr.out.keep.size (Nat.le_refl _);have Rw51_B := zh (Kw51.at RB.out jg);have HCw51 := zh (HCr.out.kp0 Kw51);have HSw51 := zh (HSz.out.loc Kw51 jg);have Rw51_Kd := zh cw51_Kd;clear Kw51 cw51_Kd l_c l_B xB_0 xB_1 xB_2 xB_3 xB_4 yB_0 yB_1 yB_2 yB_3 yB_4 l_mf l_ms l_mn RB HCr HSz;obtain ⟨l_c, xc_0, xc_1, xc_2, xc_3, xc_4, xc_5, xc_6, xc_7, xc_8, xc_9, xc_10, yc_0, yc_1, yc_2, yc_3, yc_4, yc_5, yc_6, yc_7, yc_8, yc_9, yc_10⟩ := cf11 HCw51.out.row;obtain ⟨-, l_mf, l_ms, l_mn⟩ := HCw51.out.lt;have l_B := h_lt Rw51_B.out;obtain ⟨l_Kd, xKd_0, xKd_1, xKd_2, xKd_3, xKd_4, yKd_0, yKd_1, yKd_2, yKd_3, yKd_4⟩ := cf5 Rw51_Kd.out;obtain ⟨i1, hi1, hi2, hi3, hi4⟩ := info106;have HI := zh (And.intro hi1 (And.intro hi2 (And.intro hi3 hi4)));clear hi1 hi2 hi3 hi4
      go_cut [] (fun W => ∃ T' ua' uc', CK K T' ua' uc' ({ st2 with uses := st2.uses ++ [(⟨kk.re, kk.im, noT, false, noT, false, true⟩ : Use)] }) W ∧ CStep K T2 T' w51 W)
      case first =>
       go_region_law (refine step_at (fun W => Keeps [] w51 W ∧ W.heap[w51.heap.size]? = some (.cells #[.complex .f64 kk.re kk.im, .int .i64 0, .string ⟨#[]⟩, .bool false, .int .i64 0, .string ⟨#[]⟩, .bool false, .bool true] 106 (0, 0))) ⟨zg, jd⟩ ?_; rintro wq ⟨hkq, cG⟩; refine step_appL useL rfl (.tmp 105) (.tmp 109) 68 rfl Tryz.underlying68 HI.out.1 HI.out.2.1 HI.out.2.2.1 HI.out.2.2.2 rfl zi zi rfl rfl (HCw51.out.kp0 hkq).uses (c := [.complex .f64 kk.re kk.im, .int .i64 0, .string ⟨#[]⟩, .bool false, .int .i64 0, .string ⟨#[]⟩, .bool false, .bool true]) cG (x := (⟨kk.re, kk.im, noT, false, noT, false, true⟩ : Use)) (S := fun _ => False) rfl (fun _ h => h.elim) (fun _ h => h.elim) (HCw51.out.kp0 hkq).up (HCw51.out.kp0 hkq).keep.size (Nat.le_of_lt HUL.out) ?_; rintro va wa fl hfl hka hown; obtain ⟨ka2, kc2, hva, -⟩ := hown.slice; obtain ⟨kn, hkn⟩ : ∃ k, k = ((st2).uses ++ [(⟨kk.re, kk.im, noT, false, noT, false, true⟩ : Use)]).length := ⟨_, rfl⟩; rw [← hkn] at hva; subst hva; have HKN := zh hkn; clear hkn; have r_c := hka.at (HCw51.out.kp0 hkq).row (fun h => (HCw51.out.kp0 hkq).ns.1 (hfl _ h)); have lw_c := h_lt r_c; have z0 := cell_of_heap r_c 0; have z1 := cell_of_heap r_c 1; have z2 := cell_of_heap r_c 2; have z3 := cell_of_heap r_c 3; have z4 := cell_of_heap r_c 4; have z5 := cell_of_heap r_c 5; have z6 := cell_of_heap r_c 6; have z7 := cell_of_heap r_c 7; have z8 := cell_of_heap r_c 8; have z9 := cell_of_heap r_c 9; have z10 := cell_of_heap r_c 10; have zf0 := frozen_of_heap r_c 0; have zf1 := frozen_of_heap r_c 1; have zf2 := frozen_of_heap r_c 2; have zf3 := frozen_of_heap r_c 3; have zf4 := frozen_of_heap r_c 4; have zf5 := frozen_of_heap r_c 5; have zf6 := frozen_of_heap r_c 6; have zf7 := frozen_of_heap r_c 7; have zf8 := frozen_of_heap r_c 8; have zf9 := frozen_of_heap r_c 9; have zf10 := frozen_of_heap r_c 10; simp at z0 z1 z2 z3 z4 z5 z6 z7 z8 z9 z10)
       all_goals
        go_wp2_with fail
        go_meet
        have hkn := HKN.out;subst hkn;exact CK.app hK (CStep.refl K T2 w51) HCw51.out hkq hfl hka hown zg (za r_c)
      obtain ⟨T52, ua52, uc52, hc, hs⟩ := hcut;generalize wc = w53 at *
      clear l_c xc_0 xc_1 xc_2 xc_3 xc_4 xc_5 xc_6 xc_7 xc_8 xc_9 xc_10 yc_0 yc_1 yc_2 yc_3 yc_4 yc_5 yc_6 yc_7 yc_8 yc_9 yc_10 l_B l_Kd xKd_0 xKd_1 xKd_2 xKd_3 xKd_4 yKd_0 yKd_1 yKd_2 yKd_3 yKd_4 l_mf l_ms l_mn HI;have off2_B := hs.off (h_lt Rw51_B.out) off_B;have Rw53_B := zh (hs.at Rw51_B.out off_B);have off2_Kd := hs.off (h_lt Rw51_Kd.out) off_Kd;have Rw53_Kd := zh (hs.at Rw51_Kd.out off_Kd);have off_B' := off2_B;have off_Kd' := off2_Kd;have HCw53 := zh hc;have HSw53 := zh (HSw51.out.trans hs);clear Rw51_B off_B Rw51_Kd off_Kd HCw51 HSw51 hc hs;have off_B := off_B';clear off_B' off2_B;have off_Kd := off_Kd';clear off_Kd' off2_Kd;obtain ⟨l_c, l_mf, l_ms, l_mn⟩ := HCw53.out.lt;have l_B := h_lt Rw53_B.out;obtain ⟨l_Kd, xKd_0, xKd_1, xKd_2, xKd_3, xKd_4, yKd_0, yKd_1, yKd_2, yKd_3, yKd_4⟩ := cf5 Rw53_Kd.out
      go_wp2_with fail
      clear l_c l_B l_Kd xKd_0 xKd_1 xKd_2 xKd_3 xKd_4 yKd_0 yKd_1 yKd_2 yKd_3 yKd_4 l_mf l_ms l_mn;refine (HREC.out _ _ _ _ hr hkn _ _ _ _ HCw53.out).mono ?_;rintro r e54 ⟨T54, ua54, uc54, rfl, hc, hs⟩;have off2_B := hs.off (h_lt Rw53_B.out) off_B;have Re54_B := zh (hs.at Rw53_B.out off_B);have off2_Kd := hs.off (h_lt Rw53_Kd.out) off_Kd;have Re54_Kd := zh (hs.at Rw53_Kd.out off_Kd);have off_B' := off2_B;have off_Kd' := off2_Kd;have HCe54 := zh hc;have HSe54 := zh (HSw53.out.trans hs);clear Rw53_B off_B Rw53_Kd off_Kd HCw53 HSw53 hc hs;have off_B := off_B';clear off_B' off2_B;have off_Kd := off_Kd';clear off_Kd' off2_Kd;obtain ⟨l_c, l_mf, l_ms, l_mn⟩ := HCe54.out.lt;have l_B := h_lt Re54_B.out;have l_Kd := h_lt Re54_Kd.out
      go_wp2_with fail
      go_meet
      case rel => exact ⟨_, _, _, HCe54.out, HSe54.out, Re54_B.out, off_B⟩
    rw [if_neg hka] at hr;have t1 : ((k : Int) != arr) = true := by simp [hka]
    clear hka
    focus
     obtain ⟨l_c, l_mf, l_ms, l_mn⟩ := HCr.out.lt;obtain ⟨l_B, xB_0, xB_1, xB_2, xB_3, xB_4, yB_0, yB_1, yB_2, yB_3, yB_4⟩ := cf5 RB.out;have HSz := zh (CStep.refl K T2 wr)
     go_wp2_with fail
     refine qlc ?_;rintro w51 ⟨Kw51, cw51_Kd⟩;have ⟨n_c_Kd, n_Kd_c⟩ := zne l_c;have ⟨n_mf_Kd, n_Kd_mf⟩ := zne l_mf;have ⟨n_ms_Kd, n_Kd_ms⟩ := zne l_ms;have ⟨n_mn_Kd, n_Kd_mn⟩ := zne l_mn;have ⟨n_B_Kd, n_Kd_B⟩ := zne l_B;have o_Kd : wr.heap.size ≤ wr.heap.size := Nat.le_refl _;have off_Kd : Off K T2 (wr.heap.size) := off_new HCr.out (Nat.le_refl _);have o0_Kd : K.w0.heap.size ≤ wr.heap.size := Nat.le_trans HCr.out.keep.size (Nat.le_refl _);have Rw51_B := zh (Kw51.at RB.out jg);have HCw51 := zh (HCr.out.kp0 Kw51);have HSw51 := zh (HSz.out.loc Kw51 jg);have Rw51_Kd := zh cw51_Kd;clear Kw51 cw51_Kd l_c l_B xB_0 xB_1 xB_2 xB_3 xB_4 yB_0 yB_1 yB_2 yB_3 yB_4 l_mf l_ms l_mn RB HCr HSz;refine jtc ?_;rintro r e52 ⟨T52, ua52, uc52, rfl, hc, hs⟩;have off2_B := hs.off (h_lt Rw51_B.out) off_B;have Re52_B := zh (hs.at Rw51_B.out off_B);have off2_Kd := hs.off (h_lt Rw51_Kd.out) off_Kd;have Re52_Kd := zh (hs.at Rw51_Kd.out off_Kd);have off_B' := off2_B;have off_Kd' := off2_Kd;have HCe52 := zh hc;have HSe52 := zh (HSw51.out.trans hs);clear Rw51_B off_B Rw51_Kd off_Kd HCw51 HSw51 hc hs;have off_B := off_B';clear off_B' off2_B;have off_Kd := off_Kd';clear off_Kd' off2_Kd;obtain ⟨l_c, l_mf, l_ms, l_mn⟩ := HCe52.out.lt;have l_B := h_lt Re52_B.out;have l_Kd := h_lt Re52_Kd.out
     go_wp2_with fail
     go_meet
     case rel => exact ⟨_, _, _, HCe52.out, HSe52.out, Re52_B.out, off_B⟩
   obtain ⟨T5, ua5, uc5, hc, hs, hB, off_B2⟩ := hcut;generalize wc = wj at *
   have HCj := zh hc; have HSj := zh (HSr.out.trans hs); have RJ := zh hB;clear hc hs hB off_B HCr HSr RB;have off_B := off_B2;clear off_B2;obtain ⟨l_c, l_mf, l_ms, l_mn⟩ := HCj.out.lt;have l_B := h_lt RJ.out
   go_wp2_with fail
   go_roundg f
   case measure => omega
   exact ⟨k + 1, by first | rfl | (simp; done) | (simp; omega), by omega, by omega, _, _, _, _, hcf, HCj.out, HSj.out, RJ.out, off_B⟩
 have hke : k = kids.length := by omega
 subst hke;rw [List.drop_length, bltF] at hcf;obtain rfl : st2 = st' := by simpa using hcf
 clear hcf;obtain ⟨l_c, l_mf, l_ms, l_mn⟩ := HCr.out.lt;have l_B := h_lt RB.out
 go_wp2_with fail
 refine end_at (v := .tuple #[]) (fun W => Keeps [] wr W) zg (fun w51 hW => ?_) rfl (fun w51 hW => ?_)
 ·have Kw51 : Keeps [] wr w51 := hW;exact jnb
 have Kw51 : Keeps [] wr w51 := hW;have Rw51_B := zh (Kw51.at RB.out jg);have HCw51 := zh (HCr.out.kp0 Kw51);have HSw51 := zh (HSr.out.loc Kw51 jg);clear Kw51 l_c l_B l_mf l_ms l_mn RB HCr HSr;exact jpc
end Go.Proofs.YtkfillfkbhbbjaaGreatDoor
