/- NamD, NamE, DWa, DWb, DWc, DWd, DWe. -/
import Derived.Test.YtkfillfkbhbbjaaGreatDoorNamC
set_option maxRecDepth 100000
set_option maxHeartbeats 4000000
set_option linter.unusedSimpArgs false
set_option linter.unusedVariables false
namespace Go.Proofs.YtkfillfkbhbbjaaGreatDoor
open Go.RowKit
def Aag(K:Ba)(T:Nat→Prop)(ua:Option Addr)(uc:Nat)(st:NS)(r:Ae)(w:World)(B R:Nat)(g:Nat)(W:World):Prop:=
 ∃t,Dw st.same g t=some r∧CK K T ua uc st W∧Ac [] w W∧W.heap[B]? =some (.cells #[.int .i64 t.1,.string t.2] 101 (0,0))∧W.heap[R]? =some (.cells #[.int .i64 0,.string ⟨#[]⟩] 101 (0,0))
theorem El{K:Ba}{T:Nat→Prop}{ua:Option Addr}{uc:Nat}{st:NS}{w:World}(h:CK K T ua uc st w){t r:Ae}{fu:Nat}(hx:Dw st.same fu t=some r):Calls Tryz.prog 45 #[.pointer (some ⟨K.c,0,none⟩),.agg #[.int .i64 t.1,.string t.2]] w fun q w'=>q= .returned (.agg #[.int .i64 r.1,.string r.2])∧Ac [] w w':=by
 have HC0:=zh h;have HS0:=zh (Ak.refl K T w);have HK0:=zh (Ac.refl [] w);have HX:=zh hx;clear h hx
 go_enter Tryz.func45,Tryz.ntmps45
 obtain ⟨l_c,l_mf,l_ms,l_mn⟩:=HC0.1.lt;have l_mf_1:K.mf<w.heap.size+1:=Nat.lt_add_right 1 l_mf;have l_ms_1:K.ms<w.heap.size+1:=Nat.lt_add_right 1 l_ms;have l_mn_1:K.mn<w.heap.size+1:=Nat.lt_add_right 1 l_mn;have l_c_1:K.c<w.heap.size+1:=Nat.lt_add_right 1 l_c
 go_wp2_with fail
 refine Bj (fun W=>Ac [] w W∧W.heap[w.heap.size]? =some (.cells #[.int .i64 t.1,.string t.2] 101 (0,0))∧W.heap[w.heap.size+1]? =some (.cells #[.int .i64 0,.string ⟨#[]⟩] 101 (0,0))) ⟨jg,jd,jd⟩ ?_;rintro w1 ⟨Kw1,cw1_B,cw1_R⟩;have ⟨n_c_B,n_B_c⟩:=Ai l_c;have ⟨n_mf_B,n_B_mf⟩:=Ai l_mf;have ⟨n_ms_B,n_B_ms⟩:=Ai l_ms;have ⟨n_mn_B,n_B_mn⟩:=Ai l_mn;have o_B:w.heap.size≤w.heap.size:=Nat.le_refl _;have off_B:Fu K T (w.heap.size):=Ao HC0.1 (Nat.le_refl _);have o0_B:K.w0.heap.size≤w.heap.size:=Nat.le_trans HC0.1.keep.size (Nat.le_refl _);have ⟨n_c_R,n_R_c⟩:=Ai (Nat.lt_add_right 1 l_c);have ⟨n_mf_R,n_R_mf⟩:=Ai (Nat.lt_add_right 1 l_mf);have ⟨n_ms_R,n_R_ms⟩:=Ai (Nat.lt_add_right 1 l_ms);have ⟨n_mn_R,n_R_mn⟩:=Ai (Nat.lt_add_right 1 l_mn);have n_B_R:w.heap.size≠w.heap.size+1:=by simp
 have n_R_B:w.heap.size+1≠w.heap.size:=by simp
 have o_R:w.heap.size≤w.heap.size+1:=Nat.le_trans (Nat.le_refl _) (Nat.le_add_right _ 1);have off_R:Fu K T (w.heap.size+1):=Ao HC0.1 (Nat.le_add_right _ 1);have o0_R:K.w0.heap.size≤w.heap.size+1:=Nat.le_trans HC0.1.keep.size (Nat.le_add_right _ 1);have HCw1:=zh (HC0.1.kp0 Kw1);have HSw1:=zh (HS0.1.loc Kw1 qg);have HKw1:=zh (HK0.1.trans Kw1 qg);have Rw1_B:=zh cw1_B;have Rw1_R:=zh cw1_R;clear Kw1 cw1_B cw1_R l_c l_c_1 l_mf_1 l_ms_1 l_mn_1 l_mf l_ms l_mn HC0 HS0 HK0
 go_loopg [] fu (fun g wr=>Aag K T ua uc st r w (w.heap.size) (w.heap.size+1) g wr)
 case atStart=>exact ⟨t,HX.1,HCw1.1,HKw1.1,Rw1_B.1,Rw1_R.1⟩
 clear HX;obtain ⟨t1,hG,hc,hk,hB,hR⟩:=hrel;have HCr:=zh hc;have HSr:=zh ((Ak.refl K T w).loc hk qg);have HKr:=zh hk;have RB:=zh hB;have RR:=zh hR;clear hc hk hB hR
 cases gk with
 |zero=>simp [Dw] at hG
 | succ f=>
  rw [Dw] at hG
  cases ha:Cf t1 st.same with
  | none=>
   rw [ha] at hG;simp only [Option.some.injEq] at hG;subst hG;have HA:Hd (Cf (t1.1,t1.2) st.same=none):=zh ha;clear ha;obtain ⟨l_c,xc⟩:=Cp HCr.1.row;obtain ⟨-,l_mf,l_ms,l_mn⟩:=HCr.1.lt;obtain ⟨l_B,xB⟩:=Ki RB.1;have l_R:=Ad RR.1
   go_upto_region 1 with fail
   have hlk1:=(HCr.1.kp0 (Ac.drew [] wr)).look_none HA.1;have hlk2:=(HCr.1.kp0 (kD (kA (k0 [] wr) (.cells #[.int .i64 0,.string ⟨#[]⟩] 101)))).look_none HA.1;have hlk3:=(HCr.1.kp0 (kA (kD (k0 [] wr)) (.cells #[.int .i64 0,.string ⟨#[]⟩] 101))).look_none HA.1
   go_cut [5,6] (fun s5 s6 W=>s5= .pointer (some ⟨wr.heap.size,0,none⟩)∧s6= .bool false∧Ac [] wr W∧W.heap[wr.heap.size]? =some (.cells #[.int .i64 0,.string ⟨#[]⟩] 101 (0,0)))
   case first=>
    go_region
    all_goals
     go_wp2_with fail
     go_meet
     case rel=>exact ⟨rfl,rfl,jg,jb⟩
   obtain ⟨rfl,rfl,Kw51,cc_U⟩:=hcut;generalize wc=w51 at*
   have cw51_U:=cc_U;clear cc_U;have ⟨n_c_U,n_U_c⟩:=Ai l_c;have ⟨n_mf_U,n_U_mf⟩:=Ai l_mf;have ⟨n_ms_U,n_U_ms⟩:=Ai l_ms;have ⟨n_mn_U,n_U_mn⟩:=Ai l_mn;have ⟨n_B_U,n_U_B⟩:=Ai l_B;have ⟨n_R_U,n_U_R⟩:=Ai l_R;have o_U:w.heap.size≤wr.heap.size:=HSr.1.size;have off_U:Fu K T (wr.heap.size):=Ao HCr.1 (Nat.le_refl _);have o0_U:K.w0.heap.size≤wr.heap.size:=Nat.le_trans HCr.1.keep.size (Nat.le_refl _);have Rw51_B:=zh (Kw51.at RB.1 qg);have Rw51_R:=zh (Kw51.at RR.1 qg);have HCw51:=zh (HCr.1.kp0 Kw51);have HSw51:=zh (HSr.1.loc Kw51 qg);have HKw51:=zh (HKr.1.trans Kw51 qg);have Rw51_U:=zh cw51_U;clear Kw51 cw51_U l_c xc l_B xB l_R l_mf l_ms l_mn RB RR HCr HSr HKr;obtain ⟨l_c,l_mf,l_ms,l_mn⟩:=HCw51.1.lt;obtain ⟨l_B,xB⟩:=Ki Rw51_B.1;obtain ⟨l_R,xR⟩:=Ki Rw51_R.1;have l_U:=Ad Rw51_U.1
   go_wp2_with fail
   refine Ap (v:= .agg #[.int .i64 t1.1,.string t1.2]) (fun W=>Ac [w.heap.size+1] w51 W∧W.heap[w.heap.size+1]? =some (.cells #[.int .i64 t1.1,.string t1.2] 101 (0,0))) ⟨jg,(zc Rw51_R.1 l_R)⟩ (fun w52 hW=> ?_) rfl (fun w52 hW=> ?_)
   ·obtain ⟨Kw52,cw52_R⟩:=hW;have q0:=Aa cw52_R 0;have q1:=Aa cw52_R 1;simp at q0 q1;exact YK
   obtain ⟨Kw52,cw52_R⟩:=hW;have Rw52_B:=zh (Kw52.at Rw51_B.1 qx);have Rw52_U:=zh (Kw52.at Rw51_U.1 (by simp [n_U_R]));have HCw52:=zh (HCw51.1.kp Kw52 (by simp [o0_R]) (by simp [n_c_R]) (by simp [n_mf_R]) (by simp [n_ms_R]) (by simp [n_mn_R]) qbb);have HSw52:=zh (HSw51.1.loc Kw52 zp);have HKw52:=zh (HKw51.1.trans Kw52 zp);have Rw52_R:=zh cw52_R;clear Kw52 cw52_R l_c l_B xB l_R xR l_U l_mf l_ms l_mn Rw51_B Rw51_U HCw51 HSw51 HKw51 Rw51_R;exact ⟨rfl,HKw52.1⟩
  | some u=>
   rw [ha] at hG;simp only at hG;have HA:Hd (Cf (t1.1,t1.2) st.same=some (u.1,u.2)):=zh ha;have HF:=zh hG;clear ha hG;obtain ⟨l_c,xc⟩:=Cp HCr.1.row;obtain ⟨-,l_mf,l_ms,l_mn⟩:=HCr.1.lt;obtain ⟨l_B,xB⟩:=Ki RB.1;have l_R:=Ad RR.1
   go_upto_region 1 with fail
   have hlk1:=(HCr.1.kp0 (Ac.drew [] wr)).look_some HA.1;have hlk2:=(HCr.1.kp0 (kD (kA (k0 [] wr) (.cells #[.int .i64 0,.string ⟨#[]⟩] 101)))).look_some HA.1;have hlk3:=(HCr.1.kp0 (kA (kD (k0 [] wr)) (.cells #[.int .i64 0,.string ⟨#[]⟩] 101))).look_some HA.1
   go_cut [5,6] (fun s5 s6 W=>s5= .pointer (some ⟨wr.heap.size,0,none⟩)∧s6= .bool true∧Ac [] wr W∧W.heap[wr.heap.size]? =some (.cells #[.int .i64 u.1,.string u.2] 101 (0,0)))
   case first=>
    go_region
    all_goals
     go_wp2_with fail
     go_meet
     case rel=>exact ⟨rfl,rfl,jg,jb⟩
   obtain ⟨rfl,rfl,Kw51,cc_U⟩:=hcut;generalize wc=w51 at*
   have cw51_U:=cc_U;clear cc_U;have ⟨n_c_U,n_U_c⟩:=Ai l_c;have ⟨n_mf_U,n_U_mf⟩:=Ai l_mf;have ⟨n_ms_U,n_U_ms⟩:=Ai l_ms;have ⟨n_mn_U,n_U_mn⟩:=Ai l_mn;have ⟨n_B_U,n_U_B⟩:=Ai l_B;have ⟨n_R_U,n_U_R⟩:=Ai l_R;have o_U:w.heap.size≤wr.heap.size:=HSr.1.size;have off_U:Fu K T (wr.heap.size):=Ao HCr.1 (Nat.le_refl _);have o0_U:K.w0.heap.size≤wr.heap.size:=Nat.le_trans HCr.1.keep.size (Nat.le_refl _);have Rw51_B:=zh (Kw51.at RB.1 qg);have Rw51_R:=zh (Kw51.at RR.1 qg);have HCw51:=zh (HCr.1.kp0 Kw51);have HSw51:=zh (HSr.1.loc Kw51 qg);have HKw51:=zh (HKr.1.trans Kw51 qg);have Rw51_U:=zh cw51_U;clear Kw51 cw51_U l_c xc l_B xB l_R l_mf l_ms l_mn RB RR HCr HSr HKr;obtain ⟨l_c,l_mf,l_ms,l_mn⟩:=HCw51.1.lt;obtain ⟨l_B,xB⟩:=Ki Rw51_B.1;have l_R:=Ad Rw51_R.1;obtain ⟨l_U,xU⟩:=Ki Rw51_U.1
   go_wp2_with fail
   go_roundg f
   case measure=>omega
   refine Ch (fun W=>Ac [w.heap.size] w51 W∧W.heap[w.heap.size]? =some (.cells #[.int .i64 u.1,.string u.2] 101 (0,0))) ⟨jg,(zc Rw51_B.1 l_B)⟩ ?_;rintro w52 ⟨Kw52,cw52_B⟩;have Rw52_R:=zh (Kw52.at Rw51_R.1 (by simp [n_R_B]));have Rw52_U:=zh (Kw52.at Rw51_U.1 (by simp [n_U_B]));have HCw52:=zh (HCw51.1.kp Kw52 (by simp [o0_B]) (by simp [n_c_B]) (by simp [n_mf_B]) (by simp [n_ms_B]) (by simp [n_mn_B]) (by simp [(off_B).2.2.2]));have HSw52:=zh (HSw51.1.loc Kw52 (by simp [o_B]));have HKw52:=zh (HKw51.1.trans Kw52 (by simp [o_B]));have Rw52_B:=zh cw52_B;clear Kw52 cw52_B l_c l_B xB l_R l_U xU l_mf l_ms l_mn Rw51_R Rw51_U HCw51 HSw51 HKw51 Rw51_B;exact ⟨u,HF.1,HCw52.1,HKw52.1,Rw52_B.1,Rw52_R.1⟩
def OfI(K:Ba)(T:Nat→Prop)(ua:Option Addr)(uc:Nat)(st:NS)(name:ByteArray)(ps:List ByteArray)(w:World)(R:Nat)(g:Nat)(i:Value)(W:World):Prop:=
 ∃k:Nat,i= .int .i64 k∧k≤ps.length∧g+k=ps.length+1∧Dn name (ps.take k)=false∧CK K T ua uc st W∧Ak K T T w W∧W.heap[R]? =some (.cells #[.int .i64 0,.string ⟨#[]⟩] 101 (0,0))
theorem Ni(s:ByteArray):∀(l m:List ByteArray),Dn s (l++m)=(Dn s l||Dn s m)
 | [],m=>by simp [Dn]
 | x::l,m=>by
   simp only [List.cons_append,Dn]
   by_cases h:same s x=true
   ·simp [h]
   simp [h,Ni s l m]
theorem Gd(a b:ByteArray):same a b=same b a:=by
 by_cases h:a=b
 ·rw [h]
 have h1:¬same a b=true:=fun h2=>h (Cv.1 h2)
 have h2:¬same b a=true:=fun h2=>h (Cv.1 h2).symm
 simp only [Bool.not_eq_true] at h1 h2;rw [h1,h2]
theorem ZV{K:Ba}(hK:Dp K){T:Nat→Prop}{ua:Option Addr}{uc:Nat}{st:NS}{w:World}(h:CK K T ua uc st w)(name:ByteArray){i:Nat}(hfn:st.fn=i+1)(hi:i<K.g.funcs.length):Calls Tryz.prog 75 #[.pointer (some ⟨K.c,0,none⟩),.string name] w fun r w'=>∃a st',r= .returned (.agg #[.int .i64 a,.string name])∧((Dn name K.g.funcs[i].params=true∧a=(st.fn:Int)∧st'=st)∨(Dn name K.g.funcs[i].params=false∧a=0∧st'=Df st (0,name)))∧CK K T ua uc st' w'∧Ak K T T w w':=by
 have d0:decide (0<st.fn)=true:=by simp [hfn]
 have d1:(0:Int)<(st.fn:Int):=by omega
 have d2:(st.fn:Int) -1=(i:Int):=by omega
 have d3:(i:Int)<(K.g.funcs.length:Int):=by omega
 have d4:(st.fn:Int)≤1000000:=by have:=h.fn;have:=hK.small;omega
 have d5:K.g.funcs[i].params.length≤1000000:=hK.psmall _ (List.getElem_mem hi);have HC0:=zh h;have HS0:=zh (Ak.refl K T w);have HF:=zh hfn;clear h hfn
 go_enter Tryz.func75,Tryz.ntmps75
 obtain ⟨l_c,xc_0,xc_1,xc_2,xc_3,xc_4,xc_5,xc_6,xc_7,xc_8,xc_9,xc_10,yc_0,yc_1,yc_2,yc_3,yc_4,yc_5,yc_6,yc_7,yc_8,yc_9,yc_10⟩:=Cp HC0.1.row;obtain ⟨-,l_mf,l_ms,l_mn⟩:=HC0.1.lt
 go_upto_region 2 with fail
 refine Bj (fun W=>Ac [] w W∧W.heap[w.heap.size]? =some (.cells #[.int .i64 0,.string ⟨#[]⟩] 101 (0,0))) ⟨jg,jb⟩ ?_;rintro w1 ⟨Kw1,cw1_R⟩;have ⟨n_c_R,n_R_c⟩:=Ai l_c;have ⟨n_mf_R,n_R_mf⟩:=Ai l_mf;have ⟨n_ms_R,n_R_ms⟩:=Ai l_ms;have ⟨n_mn_R,n_R_mn⟩:=Ai l_mn;have o_R:w.heap.size≤w.heap.size:=Nat.le_refl _;have off_R:Fu K T (w.heap.size):=Ao HC0.1 (Nat.le_refl _);have o0_R:K.w0.heap.size≤w.heap.size:=Nat.le_trans HC0.1.keep.size (Nat.le_refl _);have HCw1:=zh (HC0.1.kp0 Kw1);have HSw1:=zh (HS0.1.loc Kw1 qg);have Rw1_R:=zh cw1_R;clear Kw1 cw1_R l_c xc_0 xc_1 xc_2 xc_3 xc_4 xc_5 xc_6 xc_7 xc_8 xc_9 xc_10 yc_0 yc_1 yc_2 yc_3 yc_4 yc_5 yc_6 yc_7 yc_8 yc_9 yc_10 l_mf l_ms l_mn HC0 HS0;obtain ⟨l_c,xc_0,xc_1,xc_2,xc_3,xc_4,xc_5,xc_6,xc_7,xc_8,xc_9,xc_10,yc_0,yc_1,yc_2,yc_3,yc_4,yc_5,yc_6,yc_7,yc_8,yc_9,yc_10⟩:=Cp HCw1.1.row;obtain ⟨-,l_mf,l_ms,l_mn⟩:=HCw1.1.lt;have l_R:=Ad Rw1_R.1;obtain ⟨g,o,pa,pc,b0,b1,b2,b3,b4,hfa,-,hcp,-,-,-,-,-,-,hsp,-⟩:=CK.func hK (HCw1.1.kp0 (Ac.drew [] w1)) hi;have HSP:=zh hsp;have HFA:=zh hfa;clear hsp;rw [hfa] at xc_1
 go_cut [25,26,27] (fun s25 s26 s27 W=>s25= .slice pa K.g.funcs[i].params.length pc∧s26= .int .i64 K.g.funcs[i].params.length∧s27= .int .i64 0∧Ac [] w1 W)
 case first=>
  go_region
  all_goals
   go_wp2_with fail
   go_meet
   case rel=>exact ⟨rfl,rfl,rfl,jg⟩
 obtain ⟨rfl,rfl,rfl,hk⟩:=hcut;have HCl:=zh (HCw1.1.kp0 hk);have HSl:=zh (HSw1.1.loc hk qg);have RRl:=zh (hk.at Rw1_R.1 qg);clear hk hcp l_c xc_0 xc_1 xc_2 xc_3 xc_4 xc_5 xc_6 xc_7 xc_8 xc_9 xc_10 yc_0 yc_1 yc_2 yc_3 yc_4 yc_5 yc_6 yc_7 yc_8 yc_9 yc_10 l_R l_mf l_ms l_mn HCw1 HSw1;clear hfa;generalize wc=wl at*
 go_wp2_with fail
 go_loopg [27] (K.g.funcs[i].params.length+1) (fun g j wr=>OfI K T ua uc st name K.g.funcs[i].params w (w.heap.size) g j wr)
 case atStart=>exact ⟨0,rfl,Nat.zero_le _,rfl,rfl,HCl.1,HSl.1,RRl.1⟩
 obtain ⟨k,rfl,hk1,hk2,hm,hc,hs,hR⟩:=hrel;have HCr:=zh hc;have HSr:=zh hs;have RR:=zh hR;have HM0:=zh hm;clear hc hs hR hm
 by_cases hlt:k<K.g.funcs[i].params.length
 ·obtain ⟨g2,o2,hpa,hcs⟩:=CK.str HCr.1 HSP.1 hlt;subst hpa;have hta:K.g.funcs[i].params.take (k+1)=K.g.funcs[i].params.take k++ [K.g.funcs[i].params[k]]:=List.take_succ_eq_append_getElem hlt
  have hmt:Dn name (K.g.funcs[i].params.take (k+1))=same name K.g.funcs[i].params[k]:=by
   rw [hta,Ni,HM0.1];simp only [Dn,Bool.false_or];split<;>simp_all
  by_cases heq:same K.g.funcs[i].params[k] name=true
  ·have hm1:Dn name K.g.funcs[i].params=true:=by
    have h1:=List.take_append_drop (k+1) K.g.funcs[i].params;rw [←h1,Ni,hmt,Gd,heq];rfl
   have heb:(K.g.funcs[i].params[k].toList==name.toList)=true:=by rw [Ct];exact heq
   have HMT:=zh hm1;clear hta hmt hm1 heq;generalize K.g.funcs[i].params[k]=q at*
   obtain ⟨l_c,xc_0,xc_1,xc_2,xc_3,xc_4,xc_5,xc_6,xc_7,xc_8,xc_9,xc_10,yc_0,yc_1,yc_2,yc_3,yc_4,yc_5,yc_6,yc_7,yc_8,yc_9,yc_10⟩:=Cp HCr.1.row;obtain ⟨-,l_mf,l_ms,l_mn⟩:=HCr.1.lt;obtain ⟨l_R,xR⟩:=Ki RR.1
   go_wp2_with fail
   refine Ap (v:= .agg #[.int .i64 st.fn,.string name]) (fun W=>Ac [w.heap.size] wr W∧W.heap[w.heap.size]? =some (.cells #[.int .i64 st.fn,.string name] 101 (0,0))) ⟨jg,(zc RR.1 l_R)⟩ (fun w51 hW=> ?_) rfl (fun w51 hW=> ?_)
   ·obtain ⟨Kw51,cw51_R⟩:=hW;have q0:=Aa cw51_R 0;have q1:=Aa cw51_R 1;simp at q0 q1;exact YK
   obtain ⟨Kw51,cw51_R⟩:=hW;have HCw51:=zh (HCr.1.kp Kw51 (by simp [o0_R]) (by simp [n_c_R]) (by simp [n_mf_R]) (by simp [n_ms_R]) (by simp [n_mn_R]) qbb);have HSw51:=zh (HSr.1.loc Kw51 zp);have Rw51_R:=zh cw51_R;clear Kw51 cw51_R l_c xc_0 xc_1 xc_2 xc_3 xc_4 xc_5 xc_6 xc_7 xc_8 xc_9 xc_10 yc_0 yc_1 yc_2 yc_3 yc_4 yc_5 yc_6 yc_7 yc_8 yc_9 yc_10 l_R xR l_mf l_ms l_mn HCr HSr RR;exact ⟨_,_,rfl,.inl ⟨HMT.1,rfl,rfl⟩,HCw51.1,HSw51.1⟩
  simp only [Bool.not_eq_true] at heq;have heb:(K.g.funcs[i].params[k].toList==name.toList)=false:=by rw [Ct];exact heq
  have HM:=zh (show Dn name (K.g.funcs[i].params.take (k+1))=false by rw [hmt,Gd];exact heq);clear hta hmt heq;generalize K.g.funcs[i].params[k]=q at*
  cases gk with
  |zero=>omega
  |succ f=>
   obtain ⟨l_c,l_mf,l_ms,l_mn⟩:=HCr.1.lt;have l_R:=Ad RR.1
   go_wp2_with fail
   go_roundg f
   case measure=>omega
   exact ⟨k+1,by first|rfl|(simp;done)|(simp;omega),by omega,by omega,HM.1,HCr.1,HSr.1,RR.1⟩
 have hke:k=K.g.funcs[i].params.length:=by omega
 have HMF:=zh (show Dn name K.g.funcs[i].params=false by have:=HM0.1;rw [hke,List.take_length] at this;exact this);clear hke;obtain ⟨l_c,l_mf,l_ms,l_mn⟩:=HCr.1.lt;have l_R:=Ad RR.1
 go_upto_region 9 with fail
 refine Bj (fun W=>Ac [] wr W∧W.heap[wr.heap.size]? =some (.cells #[.int .i64 0,.string name] 101 (0,0))) ⟨jg,jb⟩ ?_;rintro w51 ⟨Kw51,cw51_U⟩;have ⟨n_c_U,n_U_c⟩:=Ai l_c;have ⟨n_mf_U,n_U_mf⟩:=Ai l_mf;have ⟨n_ms_U,n_U_ms⟩:=Ai l_ms;have ⟨n_mn_U,n_U_mn⟩:=Ai l_mn;have ⟨n_R_U,n_U_R⟩:=Ai l_R;have o_U:w.heap.size≤wr.heap.size:=HSr.1.size;have off_U:Fu K T (wr.heap.size):=Ao HCr.1 (Nat.le_refl _);have o0_U:K.w0.heap.size≤wr.heap.size:=Nat.le_trans HCr.1.keep.size (Nat.le_refl _);have Rw51_R:=zh (Kw51.at RR.1 qg);have HCw51:=zh (HCr.1.kp0 Kw51);have HSw51:=zh (HSr.1.loc Kw51 qg);have Rw51_U:=zh cw51_U;clear Kw51 cw51_U l_c l_R l_mf l_ms l_mn RR HCr HSr;obtain ⟨l_c,xc_0,xc_1,xc_2,xc_3,xc_4,xc_5,xc_6,xc_7,xc_8,xc_9,xc_10,yc_0,yc_1,yc_2,yc_3,yc_4,yc_5,yc_6,yc_7,yc_8,yc_9,yc_10⟩:=Cp HCw51.1.row;obtain ⟨-,l_mf,l_ms,l_mn⟩:=HCw51.1.lt;have l_R:=Ad Rw51_R.1;obtain ⟨l_U,xU⟩:=Ki Rw51_U.1;obtain ⟨es,ek,hes,hes2⟩:=HCw51.1.seen;have HEB:=zh hes;have HES:=zh hes2;clear hes hes2;have hup:(Instr.mapUpdate 67 (.map (some K.mn)) (.agg #[.int .i64 (0),.string name]) (.agg #[])).run Tryz.prog w51.drew= .ok () (mset w51.drew K.mn (.map (Cm Cn (Cw ((0,name):Ae) (.agg #[]) ek es).1) (Cw ((0,name):Ae) (.agg #[]) ek es).2)):=Uq (K:=K) (W:=w51.drew) HEB.1 (0) name
 go_cut [] (fun W=>Ac [K.mn] w51 W∧W.heap[K.mn]? =some (.map (Cm Cn (Cw ((0,name):Ae) (.agg #[]) ek es).1) (Cw ((0,name):Ae) (.agg #[]) ek es).2))
 case first=>
  go_region
  all_goals
   go_wp2_with fail
   go_meet
   case rel=>exact ⟨jg,qab⟩
 obtain ⟨Kw52,cc_mn⟩:=hcut;generalize wc=w52 at*
 have cw52_mn:=cc_mn;clear cc_mn hup;have Rw52_R:=zh (Kw52.at Rw51_R.1 (by simp [n_R_mn]));have Rw52_U:=zh (Kw52.at Rw51_U.1 (by simp [n_U_mn]));have HCw52:Hd (CK K T ua uc (Df st (0,name)) w52):=zh (HCw51.1.see hK (0,name) HES.1 Kw52 cw52_mn);have HSw52:=zh (HSw51.1.mn Kw52);have Rw52_mn:=zh cw52_mn;clear Kw52 cw52_mn l_c xc_0 xc_1 xc_2 xc_3 xc_4 xc_5 xc_6 xc_7 xc_8 xc_9 xc_10 yc_0 yc_1 yc_2 yc_3 yc_4 yc_5 yc_6 yc_7 yc_8 yc_9 yc_10 l_R l_U xU l_mf l_ms l_mn Rw51_R Rw51_U HCw51 HSw51;obtain ⟨l_c,l_mf,l_ms,l_mn⟩:=HCw52.1.lt;obtain ⟨l_R,xR⟩:=Ki Rw52_R.1;obtain ⟨l_U,xU⟩:=Ki Rw52_U.1
 go_wp2_with fail
 refine Ap (v:= .agg #[.int .i64 0,.string name]) (fun W=>Ac [w.heap.size] w52 W∧W.heap[w.heap.size]? =some (.cells #[.int .i64 0,.string name] 101 (0,0))) ⟨jg,(zc Rw52_R.1 l_R)⟩ (fun w53 hW=> ?_) rfl (fun w53 hW=> ?_)
 ·obtain ⟨Kw53,cw53_R⟩:=hW;have q0:=Aa cw53_R 0;have q1:=Aa cw53_R 1;simp at q0 q1;exact YK
 obtain ⟨Kw53,cw53_R⟩:=hW;have Rw53_U:=zh (Kw53.at Rw52_U.1 (by simp [n_U_R]));have HCw53:=zh (HCw52.1.kp Kw53 (by simp [o0_R]) (by simp [n_c_R]) (by simp [n_mf_R]) (by simp [n_ms_R]) (by simp [n_mn_R]) qbb);have HSw53:=zh (HSw52.1.loc Kw53 zp);have Rw53_R:=zh cw53_R;clear Kw53 cw53_R l_c l_R xR l_U xU l_mf l_ms l_mn Rw52_U HCw52 HSw52 Rw52_R;exact ⟨_,_,rfl,.inr ⟨HMF.1,rfl,rfl⟩,HCw53.1,HSw53.1⟩
theorem Aax{K:Ba}(hK:Dp K){T:Nat→Prop}{ua:Option Addr}{uc:Nat}{st:NS}{w:World}(h:CK K T ua uc st w)(name:ByteArray)(h0:decide (0<st.fn)=false):Calls Tryz.prog 75 #[.pointer (some ⟨K.c,0,none⟩),.string name] w fun r w'=>r= .returned (.agg #[.int .i64 0,.string name])∧CK K T ua uc (Df st (0,name)) w'∧Ak K T T w w':=by
 have HC0:=zh h;have HS0:=zh (Ak.refl K T w);clear h
 go_enter Tryz.func75,Tryz.ntmps75
 obtain ⟨l_c,xc⟩:=Cp HC0.1.row;obtain ⟨-,l_mf,l_ms,l_mn⟩:=HC0.1.lt;have l_mf_1:K.mf<w.heap.size+1:=Nat.lt_add_right 1 l_mf;have l_ms_1:K.ms<w.heap.size+1:=Nat.lt_add_right 1 l_ms;have l_mn_1:K.mn<w.heap.size+1:=Nat.lt_add_right 1 l_mn;have l_c_1:K.c<w.heap.size+1:=Nat.lt_add_right 1 l_c
 go_upto_region 9 with fail
 refine Bj (fun W=>Ac [] w W∧W.heap[w.heap.size]? =some (.cells #[.int .i64 0,.string ⟨#[]⟩] 101 (0,0))∧W.heap[w.heap.size+1]? =some (.cells #[.int .i64 0,.string name] 101 (0,0))) ⟨jg,jd,jd⟩ ?_;rintro w1 ⟨Kw1,cw1_R,cw1_U⟩;have ⟨n_c_R,n_R_c⟩:=Ai l_c;have ⟨n_mf_R,n_R_mf⟩:=Ai l_mf;have ⟨n_ms_R,n_R_ms⟩:=Ai l_ms;have ⟨n_mn_R,n_R_mn⟩:=Ai l_mn;have o_R:w.heap.size≤w.heap.size:=Nat.le_refl _;have off_R:Fu K T (w.heap.size):=Ao HC0.1 (Nat.le_refl _);have o0_R:K.w0.heap.size≤w.heap.size:=Nat.le_trans HC0.1.keep.size (Nat.le_refl _);have ⟨n_c_U,n_U_c⟩:=Ai (Nat.lt_add_right 1 l_c);have ⟨n_mf_U,n_U_mf⟩:=Ai (Nat.lt_add_right 1 l_mf);have ⟨n_ms_U,n_U_ms⟩:=Ai (Nat.lt_add_right 1 l_ms);have ⟨n_mn_U,n_U_mn⟩:=Ai (Nat.lt_add_right 1 l_mn);have n_R_U:w.heap.size≠w.heap.size+1:=by simp
 have n_U_R:w.heap.size+1≠w.heap.size:=by simp
 have o_U:w.heap.size≤w.heap.size+1:=Nat.le_trans (Nat.le_refl _) (Nat.le_add_right _ 1);have off_U:Fu K T (w.heap.size+1):=Ao HC0.1 (Nat.le_add_right _ 1);have o0_U:K.w0.heap.size≤w.heap.size+1:=Nat.le_trans HC0.1.keep.size (Nat.le_add_right _ 1);have HCw1:=zh (HC0.1.kp0 Kw1);have HSw1:=zh (HS0.1.loc Kw1 qg);have Rw1_R:=zh cw1_R;have Rw1_U:=zh cw1_U;clear Kw1 cw1_R cw1_U l_c l_c_1 xc l_mf_1 l_ms_1 l_mn_1 l_mf l_ms l_mn HC0 HS0;obtain ⟨l_c,xc⟩:=Cp HCw1.1.row;obtain ⟨-,l_mf,l_ms,l_mn⟩:=HCw1.1.lt;have l_R:=Ad Rw1_R.1;obtain ⟨l_U,xU⟩:=Ki Rw1_U.1;obtain ⟨es,ek,hes,hes2⟩:=HCw1.1.seen;have HEB:=zh hes;have HES:=zh hes2;clear hes hes2;have hup:(Instr.mapUpdate 67 (.map (some K.mn)) (.agg #[.int .i64 (0),.string name]) (.agg #[])).run Tryz.prog w1.drew= .ok () (mset w1.drew K.mn (.map (Cm Cn (Cw ((0,name):Ae) (.agg #[]) ek es).1) (Cw ((0,name):Ae) (.agg #[]) ek es).2)):=Uq (K:=K) (W:=w1.drew) HEB.1 (0) name
 go_cut [] (fun W=>Ac [K.mn] w1 W∧W.heap[K.mn]? =some (.map (Cm Cn (Cw ((0,name):Ae) (.agg #[]) ek es).1) (Cw ((0,name):Ae) (.agg #[]) ek es).2))
 case first=>
  go_region
  all_goals
   go_wp2_with fail
   go_meet
   case rel=>exact ⟨jg,qab⟩
 obtain ⟨Kw2,cc_mn⟩:=hcut;generalize wc=w2 at*
 have cw2_mn:=cc_mn;clear cc_mn hup;have Rw2_R:=zh (Kw2.at Rw1_R.1 (by simp [n_R_mn]));have Rw2_U:=zh (Kw2.at Rw1_U.1 (by simp [n_U_mn]));have HCw2:Hd (CK K T ua uc (Df st (0,name)) w2):=zh (HCw1.1.see hK (0,name) HES.1 Kw2 cw2_mn);have HSw2:=zh (HSw1.1.mn Kw2);have Rw2_mn:=zh cw2_mn;clear Kw2 cw2_mn l_c xc l_R l_U xU l_mf l_ms l_mn Rw1_R Rw1_U HCw1 HSw1;obtain ⟨l_c,l_mf,l_ms,l_mn⟩:=HCw2.1.lt;obtain ⟨l_R,xR⟩:=Ki Rw2_R.1;obtain ⟨l_U,xU⟩:=Ki Rw2_U.1
 go_wp2_with fail
 refine Ap (v:= .agg #[.int .i64 0,.string name]) (fun W=>Ac [w.heap.size] w2 W∧W.heap[w.heap.size]? =some (.cells #[.int .i64 0,.string name] 101 (0,0))) ⟨jg,(zc Rw2_R.1 l_R)⟩ (fun w3 hW=> ?_) rfl (fun w3 hW=> ?_)
 ·obtain ⟨Kw3,cw3_R⟩:=hW;have q0:=Aa cw3_R 0;have q1:=Aa cw3_R 1;simp at q0 q1;exact YK
 obtain ⟨Kw3,cw3_R⟩:=hW;have Rw3_U:=zh (Kw3.at Rw2_U.1 (by simp [n_U_R]));have HCw3:=zh (HCw2.1.kp Kw3 (by simp [o0_R]) (by simp [n_c_R]) (by simp [n_mf_R]) (by simp [n_ms_R]) (by simp [n_mn_R]) qbb);have HSw3:=zh (HSw2.1.loc Kw3 zp);have Rw3_R:=zh cw3_R;clear Kw3 cw3_R l_c l_R xR l_U xU l_mf l_ms l_mn Rw2_U HCw2 HSw2 Rw2_R;exact ⟨rfl,HCw3.1,HSw3.1⟩
theorem FV{K:Ba}(hK:Dp K){T:Nat→Prop}{ua:Option Addr}{uc:Nat}{st:NS}{w:World}(h:CK K T ua uc st w)(name:ByteArray):Calls Tryz.prog 75 #[.pointer (some ⟨K.c,0,none⟩),.string name] w fun r w'=>r= .returned (.agg #[.int .i64 (Iv K.g st name).1.1,.string (Iv K.g st name).1.2])∧CK K T ua uc (Iv K.g st name).2 w'∧Ak K T T w w':=by
 by_cases h0:st.fn=0
 ·have e1:Iv K.g st name=((0,name),Df st (0,name)):=by unfold Iv;rw [if_neg jh]
  rw [e1];exact Aax hK h name YI
 obtain ⟨i,hfn⟩:∃i,st.fn=i+1:=⟨st.fn -1,by omega⟩;have hi:i<K.g.funcs.length:=by have:=h.fn;omega
 have hp:Bk K.g st.fn=K.g.funcs[i].params:=by unfold Bk;rw [hfn,Nat.add_sub_cancel,List.getElem?_eq_getElem hi]
 refine (ZV hK h name hfn hi).mono fun r w' ⟨a,st',hr,hm,hc,hs⟩=> ?_
 subst hr
 rcases hm with ⟨hm,rfl,rfl⟩|⟨hm,rfl,rfl⟩
 ·have e1:Iv K.g st' name=((st'.fn,name),st'):=by unfold Iv;rw [if_pos ⟨by omega,by rw [hp];exact hm⟩]
  rw [e1];exact ⟨rfl,hc,hs⟩
 have e1:Iv K.g st name=((0,name),Df st (0,name)):=by unfold Iv;rw [if_neg (by rw [hp,hm];simp)]
 rw [e1];exact ⟨rfl,hc,hs⟩
theorem Av{p:Prop}(h:p:=by with_reducible repeat (first|exact k0 _ _|refine kA ?_ _|refine kD ?_|refine kS ?_ qg|refine kM ?_ qg)):p:=h
theorem Nv{p:Prop}(h:p:=by simp only [hS,hA,hD,hM,World.size_alloc,World.size_setCell,World.size_drew,size_mset,Nat.add_right_cancel_iff,Nat.left_eq_add,Nat.add_eq_left,Nat.reduceEqDiff,Nat.add_assoc,Nat.reduceAdd,Nat.one_ne_zero,Nat.zero_ne_one,reduceIte,Option.map_some,Obj.put]<;>rfl):p:=h
theorem Kj{q:Prop}(x:q){p:Prop}(h:q→p:=by intro x;simp only [hS,hA,hD,hM,World.size_alloc,World.size_setCell,World.size_drew,size_mset,Nat.add_right_cancel_iff,Nat.left_eq_add,Nat.add_eq_left,Nat.reduceEqDiff,Nat.add_assoc,Nat.reduceAdd,Nat.one_ne_zero,Nat.zero_ne_one,reduceIte,Option.map_some,Obj.put,x]<;>rfl):p:=h x
theorem Ke{w:World}{b:Nat}{T:TypeId}{c0 c1 c2 c3 c4 c5 c6 c7 c8 c9:Value}(h:w.heap[b]? =some (.cells #[c0,c1,c2,c3,c4,c5,c6,c7,c8,c9] T (0,0))):b<w.heap.size∧w.cell? ⟨b,0,none⟩=some c0∧w.cell? ⟨b,1,none⟩=some c1∧w.cell? ⟨b,2,none⟩=some c2∧w.cell? ⟨b,3,none⟩=some c3∧w.cell? ⟨b,4,none⟩=some c4∧w.cell? ⟨b,5,none⟩=some c5∧w.cell? ⟨b,6,none⟩=some c6∧w.cell? ⟨b,7,none⟩=some c7∧w.cell? ⟨b,8,none⟩=some c8∧w.cell? ⟨b,9,none⟩=some c9∧
  w.frozen? ⟨b,0,none⟩=false∧w.frozen? ⟨b,1,none⟩=false∧w.frozen? ⟨b,2,none⟩=false∧w.frozen? ⟨b,3,none⟩=false∧w.frozen? ⟨b,4,none⟩=false∧w.frozen? ⟨b,5,none⟩=false∧w.frozen? ⟨b,6,none⟩=false∧w.frozen? ⟨b,7,none⟩=false∧w.frozen? ⟨b,8,none⟩=false∧w.frozen? ⟨b,9,none⟩=false:=
 ⟨Ad h,Aa h 0,Aa h 1,Aa h 2,Aa h 3,Aa h 4,Aa h 5,Aa h 6,Aa h 7,Aa h 8,Aa h 9,Ab h 0,Ab h 1,Ab h 2,Ab h 3,Ab h 4,Ab h 5,Ab h 6,Ab h 7,Ab h 8,Ab h 9⟩
def Dd(x:DX)(e:Int)(re im:Nat):DX:=if x.e=0 then {x with e:=e,re:=re,im:=im} else x
theorem Zk{K:Br}(hK:Ff K){A:DA}{x:DX}{st:DS}{w:World}(h:DK K A x st w)(e:Int)(re im:Nat):Calls Tryz.prog 81 #[.pointer (some ⟨K.c,0,none⟩),.int .i64 e,.complex .f64 re im] w fun r w'=>r= .returned (.tuple #[])∧DK K A (Dd x e re im) st w'∧Bh w w':=by
 unfold Dd;have HD:=zh h;clear h
 by_cases h0:x.e=0
 ·rw [if_pos h0];have h0:(x.e==0)=true:=by simp [h0]
  go_enter Tryz.func81,Tryz.ntmps81
  obtain ⟨l_c,c0,c1,c2,c3,c4,c5,c6,c7,c8,c9,y0,y1,y2,y3,y4,y5,y6,y7,y8,y9⟩:=Ke HD.1.row
  go_wp2_with fail
  refine Cq (v:= .tuple #[]) (fun W=>Ac [K.c] w W∧W.heap[K.c]? =some (dC K A {x with e:=e,re:=re,im:=im} st)) ⟨Av,Kj HD.1.row⟩ (fun w1 hW=>by simp [results,Jo,go_sem]) rfl (fun w1 hW=>⟨rfl,HD.1.upd hK hW.1 hW.2,HD.1.step hW.1⟩)
 rw [if_neg h0];have h0:(x.e==0)=false:=by simp [h0]
 go_enter Tryz.func81,Tryz.ntmps81
 obtain ⟨l_c,c0,c1,c2,c3,c4,c5,c6,c7,c8,c9,y0,y1,y2,y3,y4,y5,y6,y7,y8,y9⟩:=Ke HD.1.row
 go_wp2_with fail
 refine Cq (v:= .tuple #[]) (fun W=>Ac [] w W) Av (fun w1 hW=>by simp [results,Jo,go_sem]) rfl (fun w1 hW=>⟨rfl,HD.1.kp0 hW,KT.of0 hW⟩)
theorem jme{p:Prop}(h:p:=by
 clear hm
 go_wp2_with fail
 refine Ap (v:= .int .i64 (-1)) (fun W=>Ac [] wr W) Av (fun w1 hW=>by simp [results,Jo,go_sem]) rfl (fun w1 hW=>⟨by rw [HV.1],HK.1.trans hW qg⟩)):p:=h
theorem zhe{p:Prop}(h:p:=by
 go_wp2_with fail
 refine Ap (v:= .int .i64 k) (fun W=>Ac [] wr W) Av (fun w1 hW=>by simp [results,Jo,go_sem]) rfl (fun w1 hW=>⟨by rw [HV.1],HK.1.trans hW qg⟩)):p:=h
def FuI(K:Br)(name:ByteArray)(w:World)(n:Nat)(g:Nat)(j:Value)(W:World):Prop:=∃k:Nat,j= .int .i64 k∧k≤K.g.funcs.length∧g=K.g.funcs.length+1 -k∧Cb name (K.g.funcs.drop k) k=n∧Ac [] w W
theorem Hh{K:Br}(hK:Ff K){A:DA}{x:DX}{st:DS}{w:World}(h:DK K A x st w)(name:ByteArray):Calls Tryz.prog 80 #[.pointer (some ⟨K.c,0,none⟩),.string name] w fun r w'=>r= .returned (.int .i64 ((flook K.g name:Nat) -1))∧Ac [] w w':=by
 have HD:=zh h;have hsm:=hK.small;clear h
 go_enter Tryz.func80,Tryz.ntmps80
 obtain ⟨l_c,c0,c1,c2,c3,c4,c5,c6,c7,c8,c9,y0,y1,y2,y3,y4,y5,y6,y7,y8,y9⟩:=Ke HD.1.row
 go_wp2_with fail
 clear l_c c0 c1 c2 c3 c4 c5 c6 c7 c8 c9 y0 y1 y2 y3 y4 y5 y6 y7 y8 y9
 go_loopg [5] (K.g.funcs.length+1) (fun g j wr=>FuI K name w (flook K.g name) g j wr)
 case atStart=>exact jbc
 obtain ⟨k,rfl,hk1,hk2,hm,hk⟩:=hrel;have HDr:=zh (HD.1.kp0 hk);have HK:=zh hk;clear hk
 by_cases hlt:k<K.g.funcs.length
 ·obtain ⟨g2,o2,pa,pc,b0,b1,b2,b3,b4,hfa,d0,-,-,-,-,-,-,-,-,-,l2⟩:=HDr.1.func hK hlt;rw [List.drop_eq_getElem_cons hlt,Cb] at hm;obtain ⟨l_c,c0,c1,c2,c3,c4,c5,c6,c7,c8,c9,y0,y1,y2,y3,y4,y5,y6,y7,y8,y9⟩:=Ke HDr.1.row;rw [hfa] at c1;generalize K.g.funcs[k]=q at*
  by_cases heq:same name q.name=true
  ·rw [if_pos heq] at hm;have heb:(q.name.toList==name.toList)=true:=by rw [Ct,Gd];exact heq
   have HV:=zh (show ((flook K.g name:Nat):Int) -1=k by omega);clear hm heq;exact zhe
  rw [if_neg heq] at hm;simp only [Bool.not_eq_true] at heq;have heb:(q.name.toList==name.toList)=false:=by rw [Ct,Gd];exact heq
  have HM:=zh hm;exact zue
 have hke:k=K.g.funcs.length:=by omega
 subst hke;rw [List.drop_length,Cb] at hm;obtain ⟨l_c,c0,c1,c2,c3,c4,c5,c6,c7,c8,c9,y0,y1,y2,y3,y4,y5,y6,y7,y8,y9⟩:=Ke HDr.1.row;have HV:=zh (show ((flook K.g name:Nat):Int) -1= -1 by omega);exact jme
def Ot(name:ByteArray):List ByteArray→Nat→Int
 | [],_=> -1
 |x::l,i=>if same name x then i else Ot name l (i+1)
def PaI(name:ByteArray)(l:List ByteArray)(w:World)(b:Nat)(o:Obj)(n:Int)(g:Nat)(j:Value)(W:World):Prop:=∃k:Nat,j= .int .i64 k∧k≤l.length∧g=l.length+1 -k∧Ot name (l.drop k) k=n∧Ac [] w W∧W.heap[b]? =some o
theorem Yx{w0 w:World}(hk0:Ac [] w0 w){l:List ByteArray}{pa:Option Addr}{pc:Nat}(hs:Aq Ef w0 (fun _=>True) l (.slice pa l.length pc))(hl:l.length≤1000000)(nm:ByteArray){b0:Int}{s0:ByteArray}{f0:Nat}{a0:Option Addr}{n0 m0:Nat}{r0 i0 re im:Nat}(name:ByteArray):Calls Tryz.prog 82 #[.agg #[.string nm,.slice pa l.length pc,.int .i64 b0,.string s0,.float .f64 f0,.slice a0 n0 m0,.complex .f64 r0 i0,.complex .f64 re im],.string name] w fun r w'=>r= .returned (.int .i64 (Ot name l 0))∧Ac [] w w':=by
 have HS:=zh hs;have HK0:=zh hk0;clear hs hk0
 go_enter Tryz.func82,Tryz.ntmps82
 go_wp2_with fail
 refine Bj (fun W=>Ac [] w W∧W.heap[w.heap.size]? =some (.cells #[.string nm,.slice pa l.length pc,.int .i64 b0,.string s0,.float .f64 f0,.slice a0 n0 m0,.complex .f64 r0 i0,.complex .f64 re im] 61 (0,0))) ⟨Av,Nv⟩ ?_;rintro w1 ⟨Kw,cw⟩;have HW:=zh Kw;have HB:=zh cw;clear Kw cw
 go_loopg [5] (l.length+1) (fun g j wr=>PaI name l w w.heap.size (.cells #[.string nm,.slice pa l.length pc,.int .i64 b0,.string s0,.float .f64 f0,.slice a0 n0 m0,.complex .f64 r0 i0,.complex .f64 re im] 61 (0,0)) (Ot name l 0) g j wr)
 case atStart=>exact ⟨0,rfl,Nat.zero_le _,rfl,rfl,HW.1,HB.1⟩
 obtain ⟨k,rfl,hk1,hk2,hm,hk,hb⟩:=hrel;have HK:=zh hk;have HBr:=zh hb;clear hk hb;obtain ⟨l_B,x0,x1,x2,x3,x4,x5,x6,x7,z0,z1,z2,z3,z4,z5,z6,z7⟩:=Rh HBr.1
 by_cases hlt:k<l.length
 ·obtain ⟨g2,o2,rfl,d0⟩:=Rx (HK0.1.trans (fp':= []) HK.1 qg) HS.1 hlt;rw [List.drop_eq_getElem_cons hlt,Ot] at hm;generalize l[k]=q at*
  by_cases heq:same name q=true
  ·rw [if_pos heq] at hm;have heb:(q.toList==name.toList)=true:=by rw [Ct,Gd];exact heq
   have HV:=zh hm.symm;clear hm heq;exact zhe
  rw [if_neg heq] at hm;simp only [Bool.not_eq_true] at heq;have heb:(q.toList==name.toList)=false:=by rw [Ct,Gd];exact heq
  have HM:=zh hm;clear hm heq
  cases gk with
  |zero=>omega
  |succ f=>
   go_wp2_with fail
   go_roundg f
   case measure=>omega
   case rel=>exact ⟨k+1,by first|rfl|(simp;done)|(simp;omega),by omega,by omega,HM.1,HK.1.trans (fp':= []) Av qg,by first|exact HBr.1|exact Kj HBr.1⟩
 have hke:k=l.length:=by omega
 subst hke;rw [List.drop_length,Ot] at hm;have HV:=zh hm.symm;exact jme
def HaI(st:DS)(i:Nat)(w:World)(g:Nat)(j:Value)(W:World):Prop:=∃k:Nat,j= .int .i64 k∧k≤st.calls.length∧g=st.calls.length+1 -k∧((st.calls.drop k).any fun c=>c.atU==i)=Bb st i∧Ac [] w W
theorem Ps{K:Br}{A:DA}{x:DX}{st:DS}{w:World}(h:DK K A x st w)(i:Nat)(hl:st.calls.length≤1000000):Calls Tryz.prog 87 #[.pointer (some ⟨K.c,0,none⟩),.int .i64 i] w fun r w'=>r= .returned (.bool (Bb st i))∧Ac [] w w':=by
 have HD:=zh h;clear h
 go_enter Tryz.func87,Tryz.ntmps87
 go_wp2_with fail
 go_loopg [5] (st.calls.length+1) (fun g j wr=>HaI st i w g j wr)
 case atStart=>exact jbc
 obtain ⟨k,rfl,hk1,hk2,hm,hk⟩:=hrel;have HDr:=zh (HD.1.kp0 hk);have HK:=zh hk;clear hk;obtain ⟨l_c,c0,c1,c2,c3,c4,c5,c6,c7,c8,c9,y0,y1,y2,y3,y4,y5,y6,y7,y8,y9⟩:=Ke HDr.1.row;have hcap:=HDr.1.calls.cap
 by_cases hlt:k<st.calls.length
 ·obtain ⟨g2,hca,l2,-,hc⟩:=HDr.1.calls.get caL hlt;rw [hca] at c4;rw [List.drop_eq_getElem_cons hlt,List.any_cons] at hm;generalize st.calls[k]=q at*
  have d0:=hc 0 _ rfl;have d1:=hc 1 _ rfl;have d2:=hc 2 _ rfl;clear hc
  by_cases heq:q.atU=i
  ·have heb:((q.atU:Int)==(i:Int))=true:=by simp [heq]
   have HV:=zh (show Bb st i=true by rw [←hm];simp [heq]);clear hm heq
   go_wp2_with fail
   refine Ap (v:= .bool true) (fun W=>Ac [] wr W) Av (fun w1 hW=>by simp [results,Jo,go_sem]) rfl (fun w1 hW=>⟨by rw [HV.1],HK.1.trans hW qg⟩)
  have heb:((q.atU:Int)==(i:Int))=false:=beq_false_of_ne jh;have HM:=zh (show ((st.calls.drop (k+1)).any fun c=>c.atU==i)=Bb st i by rw [←hm];simp [heq]);exact zue
 have hke:k=st.calls.length:=by omega
 subst hke;rw [List.drop_length,List.any_nil] at hm;have HV:=zh hm.symm;clear hm
 go_wp2_with fail
 refine Ap (v:= .bool false) (fun W=>Ac [] wr W) Av (fun w1 hW=>by simp [results,Jo,go_sem]) rfl (fun w1 hW=>⟨by rw [HV.1],HK.1.trans hW qg⟩)
theorem Ly(k:Int)(w:World):Calls Tryz.prog 121 #[.int .i64 k] w fun r w'=>r= .returned (.bool (Lh k))∧w'=w:=by
 go_enter Tryz.func121,Tryz.ntmps121
 have hk:Lh k=(decide (32≤k)&&decide (k≤35)):=by
  rw [Lh,Bool.eq_iff_iff];simp;omega
 by_cases h1:32≤k
 ·have e1:decide (32≤k)=true:=by simp [h1]
  by_cases h2:k≤35
  ·have e2:decide (k≤35)=true:=by simp [h2]
   rw [hk,e1,e2];clear hk
   go_wp2_with fail
   go_ret
   exact Qd
  have e2:decide (k≤35)=false:=by simp [h2]
  rw [hk,e1,e2];clear hk
  go_wp2_with fail
  go_ret
  exact Qd
 have e1:decide (32≤k)=false:=by simp [h1]
 rw [hk,e1];clear hk
 go_wp2_with fail
 go_ret
 exact Qd
def Ve:ByteArray:=⟨#[78,82,32,78,70,32,70,83,32,79,70,83,32,79,82,83,32,82,83,32,83,85,66,83,69,80,32,67,79,78,86,70,77,84,32,79,70,77,84,32,82,83,84,65,82,84,32,82,76,69,78,71,84,72,32,78,79,87,32,71,65,80,83]⟩
def TW(t:ByteArray):List ByteArray→Bool
 | []=>false
 |w::l=>same w t||TW t l
theorem GS(t:ByteArray):Gj Ve t=TW t specials:=by kernel_rfl
theorem IT(t:ByteArray):∀l,TW t l=Dn t l
 | []=>rfl
 |x::l=>by rw [TW,Dn,IT t l,Gd x t];cases same t x<;>rfl
theorem Ia(s:ByteArray)(w:World):Calls Tryz.prog 52 #[.string s] w fun r w'=>r= .returned (.bool (Am s))∧w'=w:=by
 have hA:=zh (fun W=>Fl Ve s zi W);have hv:Am s=Gj Ve s:=by rw [GS,IT];rfl
 rw [hv];clear hv
 go_enter Tryz.func52,Tryz.ntmps52
 go_wp2_with fail
 refine (hA.1 _).mono ?_;rintro r w1 ⟨rfl,rfl⟩
 go_wp2_with fail
 go_ret
 exact Qd
def Ha(s:ByteArray)(k:Nat):Bool:=decide ((Bz s).1≤k)&&decide (k≤(Bz s).2)
def Fc:List (List UInt8):= [[108,101,110,103,116,104],[115,114,97,110,100],[114,97,110,100],[105,110,100,101,120],[109,97,116,99,104],[97,116,97,110,50],[101,120,112,105,114,101],[115,117,98,115,116,114],[115,112,108,105,116],[115,117,98],[103,115,117,98],[115,112,114,105,110,116,102]]
theorem Yc(l:List UInt8)(hl:l∈Fc)(k:Nat)(hk:k≤1000000)(w:World):Calls Tryz.prog 154 #[.string ⟨l.toArray⟩,.int .i64 k] w fun r w'=>r= .returned (.bool (Ha ⟨l.toArray⟩ k))∧w'=w:=by
 have hc:∀b,Ha ⟨l.toArray⟩ k=b→Calls Tryz.prog 154 #[.string ⟨l.toArray⟩,.int .i64 k] w (fun r w'=>r= .returned (.bool b)∧w'=w)→Calls Tryz.prog 154 #[.string ⟨l.toArray⟩,.int .i64 k] w fun r w'=>r= .returned (.bool (Ha ⟨l.toArray⟩ k))∧w'=w:=fun b h h'=>by rw [h];exact h'
 by_cases h4:4≤k
 ·have e0:((k:Int)==0)=false:=beq_false_of_ne jh;have e1:((k:Int)==1)=false:=beq_false_of_ne jh;have e2:((k:Int)==2)=false:=beq_false_of_ne jh;have e3:((k:Int)==3)=false:=beq_false_of_ne jh;have f1:decide ((k:Int)≤1)=false:=by simp;omega
  have f2:decide (1≤(k:Int))=true:=by simp;omega
  by_cases hs:l= [115,112,114,105,110,116,102]
  ·subst hs;refine hc true ?_ ?_
   ·have:Bz ⟨#[115,112,114,105,110,116,102]⟩=(1,1073741824):=by rfl
    simp [Ha,this];omega
   clear hl hc h4
   go_enter Tryz.func154,Tryz.ntmps154
   go_wp2_with fail
   go_ret
   exact Qd
  refine hc false ?_ ?_
  ·have:∀l∈Fc,l≠ [115,112,114,105,110,116,102]→(Bz ⟨l.toArray⟩).2≤3:=by decide
   have:=this l hl hs;simp [Ha];omega
  clear hc h4;simp only [Fc,List.mem_cons,List.not_mem_nil,or_false] at hl
  rcases hl with rfl|rfl|rfl|rfl|rfl|rfl|rfl|rfl|rfl|rfl|rfl|rfl
  all_goals first|exact absurd rfl hs|skip
  all_goals
   clear hs
   go_enter Tryz.func154,Tryz.ntmps154
   go_wp2_with fail
   go_ret
   exact Qd
 have hk:k=0∨k=1∨k=2∨k=3:=by omega
 clear h4;simp only [Fc,List.mem_cons,List.not_mem_nil,or_false] at hl
 rcases hk with rfl|rfl|rfl|rfl
 all_goals
  rcases hl with rfl|rfl|rfl|rfl|rfl|rfl|rfl|rfl|rfl|rfl|rfl|rfl
  all_goals
   refine hc _ (by rfl) ?_;clear hc
   go_enter Tryz.func154,Tryz.ntmps154
   go_wp2_with fail
   go_ret
   exact Qd
theorem Pd(s:ByteArray)(k:Nat)(hk:k≤1000000)(w:World):Calls Tryz.prog 154 #[.string s,.int .i64 k] w fun r w'=>r= .returned (.bool (Ha s k))∧w'=w:=by
 by_cases hs:s.data.toList∈Fc
 ·have:s=⟨s.data.toList.toArray⟩:=by cases s;simp
  rw [this];exact Yc _ hs k hk w
 have hne:∀l,l∈Fc→(s.toList==l)=false:=fun l hl=>by
  rw [ByteArray.toList_eq];exact beq_false_of_ne fun e=>hs (e▸hl)
 have hsb:∀l,l∈Fc→same s (bs l)=false:=fun l hl=>by
  cases h:same s (bs l) with
  |false=>rfl
  |true=>have:=Cv.1 h;subst this;exact absurd hl hs
 have hc:Bz s=(1,1):=by
  unfold Bz;simp only [Dn,hsb _ (show [108,101,110,103,116,104]∈Fc by decide),hsb _ (show [115,114,97,110,100]∈Fc by decide),hsb _ (show [114,97,110,100]∈Fc by decide),hsb _ (show [105,110,100,101,120]∈Fc by decide),hsb _ (show [109,97,116,99,104]∈Fc by decide),hsb _ (show [97,116,97,110,50]∈Fc by decide),hsb _ (show [101,120,112,105,114,101]∈Fc by decide),hsb _ (show [115,117,98,115,116,114]∈Fc by decide),hsb _ (show [115,112,108,105,116]∈Fc by decide),hsb _ (show [115,117,98]∈Fc by decide),hsb _ (show [103,115,117,98]∈Fc by decide),hsb _ (show [115,112,114,105,110,116,102]∈Fc by decide),Bool.false_eq_true,if_false]
 have h0:=hne [108,101,110,103,116,104] zi;have h1:=hne [115,114,97,110,100] zi;have h2:=hne [114,97,110,100] zi;have h3:=hne [105,110,100,101,120] zi;have h4:=hne [109,97,116,99,104] zi;have h5:=hne [97,116,97,110,50] zi;have h6:=hne [101,120,112,105,114,101] zi;have h7:=hne [115,117,98,115,116,114] zi;have h8:=hne [115,112,108,105,116] zi;have h9:=hne [115,117,98] zi;have h10:=hne [103,115,117,98] zi;have h11:=hne [115,112,114,105,110,116,102] zi;have hcb:Ha s k=((k:Int)==1):=by rw [Ha,hc,Bool.eq_iff_iff];simp;omega
 rw [hcb];clear hne hsb hc hcb hs
 go_enter Tryz.func154,Tryz.ntmps154
 go_wp2_with fail
 go_ret
 exact Qd
theorem DK.thing{K:Br}{A:DA}{x:DX}{st:DS}{W:World}(h:DK K A x st W){i:Nat}{y:Ea}(hi:st.things[i]? =some y):∃g,A.ta=some ⟨g,0,none⟩∧g<W.heap.size∧i<st.things.length∧(∃c,W.heap[g]? =some (.cells c 117 (0,0)))∧W.cell? ⟨g,i*3,none⟩=some (.int .i64 ((y.t.1:Int) -1))∧W.cell? ⟨g,i*3+1,none⟩=some (.string y.t.2)∧W.cell? ⟨g,i*3+2,none⟩=some (.int .i64 y.like):=by
 obtain ⟨hlt,he⟩:=List.getElem?_eq_some_iff.1 hi;obtain ⟨g,h1,h2,h3,h4⟩:=h.things.get thL hlt;rw [he] at h4;exact ⟨g,h1,h2,hlt,h3,h4 0 _ rfl,h4 1 _ rfl,h4 2 _ rfl⟩
def RoI(st:DS)(r:Nat)(w:World)(g:Nat)(j:Value)(W:World):Prop:=∃k:Nat,j= .int .i64 k∧Jy st.things g k=some r∧Ac [] w W
theorem Hw{K:Br}{A:DA}{x:DX}{st:DS}{w:World}(h:DK K A x st w)(hl:st.things.length≤1000000){i r:Nat}(hr:Jb st i=some r):Calls Tryz.prog 50 #[.pointer (some ⟨K.c,0,none⟩),.int .i64 i] w fun v w'=>v= .returned (.int .i64 r)∧Ac [] w w':=by
 have HD:=zh h;have HR:=zh hr;clear h hr
 go_enter Tryz.func50,Tryz.ntmps50
 go_wp2_with fail
 go_loopg [1] 1000000 (fun g j wr=>RoI st r w g j wr)
 case atStart=>exact ⟨i,rfl,HR.1,Av⟩
 obtain ⟨k,rfl,hm,hk⟩:=hrel;have HDr:=zh (HD.1.kp0 hk);have HK:=zh hk;clear hk
 cases gk with
 |zero=>cases hm
 | succ f=>
  rw [Jy] at hm
  cases hy:st.things[k]? with
  |none=>rw [hy] at hm;cases hm
  | some y=>
   rw [hy] at hm;simp only at hm;obtain ⟨g2,hta,l2,hkl,-,d0,d1,d2⟩:=HDr.1.thing hy;obtain ⟨l_c,c0,c1,c2,c3,c4,c5,c6,c7,c8,c9,y0,y1,y2,y3,y4,y5,y6,y7,y8,y9⟩:=Ke HDr.1.row;have hcap:=HDr.1.things.cap;rw [hta] at c2;clear hy
   by_cases he:y.like=k
   ·rw [if_pos he] at hm;have HV:=zh (show k=r by simpa using hm);have heb:((y.like:Int) !=(k:Int))=false:=by simp [he]
    clear hm he;exact zhe
   rw [if_neg he] at hm;have HM:=zh hm;have heb:((y.like:Int) !=(k:Int))=true:=by simp;omega
   clear hm he
   go_wp2_with fail
   go_roundg f
   case measure=>omega
   case rel=>exact ⟨y.like,rfl,HM.1,HK.1.trans (fp':= []) Av qg⟩
def OfJ(t:Ae)(st:DS)(n:Option Nat)(w:World)(g:Nat)(j:Value)(W:World):Prop:=∃k:Nat,j= .int .i64 k∧k≤st.things.length∧g=st.things.length+1 -k∧Fi t (st.things.drop k) k=n∧Ac [] w W
theorem UN:∃i,Tryz.prog.info? 117=some i∧i.zero=some (.agg #[.int .i64 0,.string ⟨#[]⟩,.int .i64 0])∧i.size=3∧i.bytes=32:=by
 have h:(Tryz.prog.info? 117).map (fun i=>(i.zero,i.size,i.bytes))=some (some (.agg #[.int .i64 0,.string ⟨#[]⟩,.int .i64 0]),3,32):=by kernel_rfl
 cases hi:Tryz.prog.info? 117 with
 |none=>rw [hi] at h;cases h
 |some i=>rw [hi] at h;simp at h;exact ⟨i,rfl,h.1,h.2.1,h.2.2⟩
theorem th1(x:Ea):∀u∈JU x,u.oneCell'=true:=by intro u hu;simp [JU] at hu;rcases hu with rfl|rfl|rfl<;>rfl
theorem DK.grewT{K:Br}(hK:Ff K){A:DA}{x:DX}{st:DS}{w1 w2 w3:World}{g cp:Nat}{y:Ea}(h:DK K A x st w1)(hr:Dz 117 3 JU w2 K.w0.heap.size (st.things++ [y]) (some ⟨g,0,none⟩) cp)(hk:KT [117] w1 w2)(h0:∀k,k<K.w0.heap.size→w2.heap[k]? =w1.heap[k]?)(hk2:Ac [K.c] w2 w3)(hrow:w3.heap[K.c]? =some (.cells #[.slice K.ra K.g.rules.length K.rc,.slice K.fa K.g.funcs.length K.fc,.slice (some ⟨g,0,none⟩) (st.things.length+1) cp,.slice A.ua st.uses.length A.uc,.slice A.ca st.calls.length A.cc,.int .i64 x.e,.complex .f64 x.re x.im,.int .i64 x.fn,.int .i64 x.kind,.int .i64 x.loops] 114 (0,0))):DK K {A with ta:=some ⟨g,0,none⟩,tc:=cp} x {st with things:=st.things++ [y]} w3∧Bh w1 w3:=by
 have k2:KT [114] w2 w3:=KT.ofOne hk2 (hk.at h.row qg) qg;have k12:KT [117,114] w1 w3:=(KT.trans (ts:= [117,114]) ⟨hk.os,hk.tape,hk.output,hk.size,fun k hl hn=>hk.block k hl fun c t f h=>by have:=hn c t f h;simp at this⊢;exact this.1⟩ ⟨k2.os,k2.tape,k2.output,k2.size,fun k hl hn=>k2.block k hl fun c t f h=>by have:=hn c t f h;simp at this⊢;exact this.2⟩);have hs:=hk.size;refine ⟨⟨?_,by rw [hrow];simp [dC],hr.kp fun g' c hg' _=>(k2.at hg' qg).trans hg'.symm,h.uses.kp fun g c hg _=>(k12.at hg qg).trans hg.symm,h.calls.kp fun g c hg _=>(k12.at hg qg).trans hg.symm⟩,⟨k12.os,k12.tape,k12.output,k12.size,fun k hl hn=>k12.block k hl fun c t f h=>by have:=hn c t f h;simp at this⊢;exact ⟨this.2.1,this.1⟩⟩⟩;refine ⟨k12.os.trans h.keep.os,k12.tape.trans h.keep.tape,k12.output.trans h.keep.output,Nat.le_trans h.keep.size k12.size,fun k hl _=> ?_⟩;have hkc:k≠K.c:=by have:=hK.c;omega
 rw [hk2.block k (by have:=h.keep.size;omega) (by simpa using hkc),h0 k hl];exact h.keep.block k hl qg
end Go.Proofs.YtkfillfkbhbbjaaGreatDoor
