/- BltW. -/
import Derived.Test.YtkfillfkbhbbjaaGreatDoorRegI
import Derived.Test.YtkfillfkbhbbjaaGreatDoorNodJ
set_option maxRecDepth 100000
set_option maxHeartbeats 4000000
set_option linter.unusedSimpArgs false
set_option linter.unusedVariables false
namespace Go.Proofs.YtkfillfkbhbbjaaGreatDoor
open Go.RowKit
def Abl(K:Ba)(T:Nat→Prop)(w:World)(s3:NS)(B:Nat)(ob:Obj)(W:World):Prop:=
 ∃T' ua' uc',CK K T' ua' uc' s3 W∧Ak K T T' w W∧W.heap[B]? =some ob∧Fu K T' B
def Abk(K:Ba)(T:Nat→Prop)(w:World)(tx:ByteArray)(st:NS)(kids:List Af)(B:Nat)(ob:Obj)(s6:Value)(W:World):Prop:=
 s6= .int .i64 (Gi tx)∧∃T' ua' uc',CK K T' ua' uc' (Ih tx st kids) W∧Ak K T T' w W∧W.heap[B]? =some ob∧Fu K T' B
def Abm(K:Ba)(rec:Cu)(arr:Int)(kids:List Af)(st':NS)(T0:Nat→Prop)(w:World)(B:Nat)(ob:Obj)(g:Nat)(j:Value)(W:World):Prop:=
 ∃k:Nat,j= .int .i64 k∧k≤kids.length∧g+k=kids.length+1∧∃st T ua uc,Nw K.g rec arr k (kids.drop k) st=some st'∧CK K T ua uc st W∧Ak K T0 T w W∧W.heap[B]? =some ob∧Fu K T B
theorem EP(s:ByteArray):Gi s=1∨Gi s=0∨Gi s= -1:=by
 unfold Gi
 split
 ·exact .inl rfl
 split
 ·exact .inr (.inl rfl)
 exact .inr (.inr rfl)
theorem Vc{nm:ByteArray}{st:NS}{kids:List Af}(h:kids.length=3)(hn:nm=CZ∨nm=To):Ih nm st kids=if Hn (kids[2]'jh)=false then Al st (kids[2]'jh).re (kids[2]'jh).im 31 else st:=by
 match kids,h with
 | [a,b,c],_=>simp only [Ih,hn,true_and,List.getElem_cons_succ,List.getElem_cons_zero]
theorem BZ{nm:ByteArray}{st:NS}{kids:List Af}(h:¬kids.length=3):Ih nm st kids=st:=by
 match kids,h with
 | [],_=>rfl
 | [_],_=>rfl
 | [_,_],_=>rfl
 | [_,_,_],h=>exact absurd rfl h
 |_::_::_::_::_,_=>rfl
theorem Uo{nm:ByteArray}{st:NS}{kids:List Af}(h:¬(nm=CZ∨nm=To)):Ih nm st kids=st:=by
 unfold Ih;split
 ·rw [if_neg (fun k=>h k.1)]
 rfl
theorem TX{k:Af}(h:Hn k=false):¬k.kind=4∧¬k.kind=5∧¬k.kind=6:=by
 unfold Hn at h;simp only [Bool.or_eq_false_iff,beq_eq_false_iff_ne] at h;exact ⟨h.1.1,h.1.2,h.2⟩
theorem OT{k:Af}(h:¬Hn k=false):(k.kind !=4)=false∨((k.kind !=4)=true∧(k.kind !=5)=false)∨((k.kind !=4)=true∧(k.kind !=5)=true∧(k.kind !=6)=false):=by
 unfold Hn at h
 by_cases h4:k.kind=4
 ·exact .inl (by simp [h4])
 by_cases h5:k.kind=5
 ·exact .inr (.inl ⟨by simp [h4],by simp [h5]⟩)
 by_cases h6:k.kind=6
 ·exact .inr (.inr ⟨by simp [h4],by simp [h5],by simp [h6]⟩)
 exact absurd (by simp [h4,h5,h6]) h
theorem Ik{s:ByteArray}{l:List UInt8}(h:¬s=⟨l.toArray⟩):(s.toList==l)=false:=by
 cases hs:same s (bs l) with
 |false=>exact Ay hs
 |true=>exact absurd (Bl hs) h
set_option maxHeartbeats 40000000 in
theorem VM{K:Ba}(hK:Dp K){T:Nat→Prop}{ua:Option Addr}{uc:Nat}{st:NS}{w:World}(h:CK K T ua uc st w)(kd:Int)(tx:ByteArray)(fm:Nat)(na:Option Addr)(nc re im:Nat)(kids:List Af){rec:Cu}{c1 c2:Nat}{st':NS}(hcn:Bz tx=(c1,c2))(hn:¬kids.length<c1)(hm:¬c2<kids.length)(hkl:kids.length≤1000000)(hkd:Bc K.w0 (fun _=>True) kids (.slice na kids.length nc))(hrec:Ku K rec)(hnl:tx=⟨#[108,101,110,103,116,104]⟩→∀h:kids.length=1,(kids[0].kind==4)=false)(hcf:Nw K.g rec (Gi tx) 0 kids (Ih tx st kids)=some st'):Calls Tryz.prog 77 #[.pointer (some ⟨K.c,0,none⟩),.agg #[.int .i64 kd,.string tx,.float .f64 fm,.slice na kids.length nc,.complex .f64 re im]] w fun r w'=>∃T' ua' uc',r= .returned (.tuple #[])∧CK K T' ua' uc' (st') w'∧Ak K T T' w w':=by
 have d1:¬((kids.length:Int)<(c1:Int)):=by omega
 have d2:decide (kids.length<c1)=false:=by simp;omega
 have d3:¬((c2:Int)<(kids.length:Int)):=by omega
 have d4:decide (c2<kids.length)=false:=by simp;omega
 have HKD:=zh hkd;have HREC:=zh hrec;have HCF:=zh hcf;clear hkd hrec hcf hn hm;have HC0:=zh h;have HS0:=zh (Ak.refl K T w);clear h
 go_enter Tryz.func77,Tryz.ntmps77
 obtain ⟨l_c,l_mf,l_ms,l_mn⟩:=HC0.1.lt
 go_wp2_with fail
 refine zpc ?_;rintro w1 ⟨Kw1,cw1_B⟩;have ⟨n_c_B,n_B_c⟩:=Ai l_c;have ⟨n_mf_B,n_B_mf⟩:=Ai l_mf;have ⟨n_ms_B,n_B_ms⟩:=Ai l_ms;have ⟨n_mn_B,n_B_mn⟩:=Ai l_mn;have o_B:w.heap.size≤w.heap.size:=Nat.le_refl _;have off_B:Fu K T (w.heap.size):=Ao HC0.1 (Nat.le_refl _);have o0_B:K.w0.heap.size≤w.heap.size:=Nat.le_trans HC0.1.keep.size (Nat.le_refl _);have HCw1:=zh (HC0.1.kp0 Kw1);have HSw1:=zh (HS0.1.loc Kw1 qg);have Rw1_B:=zh cw1_B;clear Kw1 cw1_B l_c l_mf l_ms l_mn HC0 HS0;refine (Sz hcn _).mono ?_;rintro r w' ⟨rfl,hw'⟩;rw [hw'];clear hw';obtain ⟨l_c,l_mf,l_ms,l_mn⟩:=HCw1.1.lt;obtain ⟨l_B,xB⟩:=Bv Rw1_B.1
 go_upto_block 0 with fail
 clear l_c l_B xB l_mf l_ms l_mn
 go_cut [6] (fun s6 W=>Abk K T w tx st kids (w.heap.size) (.cells #[.int .i64 kd,.string tx,.float .f64 fm,.slice na kids.length nc,.complex .f64 re im] 50 (0,0)) s6 W)
 case first=>
  clear HREC HCF
  by_cases hx:tx=⟨#[115,117,98]⟩
  ·obtain rfl:tx=⟨#[115,117,98]⟩:=hx;have ha0:Gi ⟨#[115,117,98]⟩= -1:=by decide
   by_cases h3:kids.length=3
   ·have d5:((kids.length:Int)==3)=true:=by simp [h3]
    have hlt:2<kids.length:=by omega
    obtain ⟨g3,o3,fm3,na3,nc3,hna,kc0,kc1,kc2,kc3,kc4,hkn⟩:=CK.kid HCw1.1 HKD.1 hlt;subst hna;have lg3:g3<w1.heap.size:=Cd kc0;have d6:(2:Int)<(kids.length:Int):=by omega
    have hs1:Ih ⟨#[115,117,98]⟩ st kids=if Hn kids[2]=false then Al st kids[2].re kids[2].im 31 else st:=Vc h3 zi
    clear h3;generalize kids[2]=kk at*
    by_cases hlv:Hn kk=false
    ·have hs0:Ih ⟨#[115,117,98]⟩ st kids=Al st kk.re kk.im 31:=by rw [hs1,if_pos hlv]
     exact ztd
    have hs0:Ih ⟨#[115,117,98]⟩ st kids=st:=by rw [hs1,if_neg hlv]
    exact zwd
   have d5:((kids.length:Int)==3)=false:=by simp;omega
   have hs0:Ih ⟨#[115,117,98]⟩ st kids=st:=BZ h3;clear h3;exact XE
  have hx_sub:=hx;clear hx
  by_cases hx:tx=⟨#[103,115,117,98]⟩
  ·obtain rfl:tx=⟨#[103,115,117,98]⟩:=hx;have ha0:Gi ⟨#[103,115,117,98]⟩= -1:=by decide
   by_cases h3:kids.length=3
   ·have d5:((kids.length:Int)==3)=true:=by simp [h3]
    have hlt:2<kids.length:=by omega
    obtain ⟨g3,o3,fm3,na3,nc3,hna,kc0,kc1,kc2,kc3,kc4,hkn⟩:=CK.kid HCw1.1 HKD.1 hlt;subst hna;have lg3:g3<w1.heap.size:=Cd kc0;have d6:(2:Int)<(kids.length:Int):=by omega
    have hs1:Ih ⟨#[103,115,117,98]⟩ st kids=if Hn kids[2]=false then Al st kids[2].re kids[2].im 31 else st:=Vc h3 zi
    clear h3;generalize kids[2]=kk at*
    by_cases hlv:Hn kk=false
    ·have hs0:Ih ⟨#[103,115,117,98]⟩ st kids=Al st kk.re kk.im 31:=by rw [hs1,if_pos hlv]
     exact ztd
    have hs0:Ih ⟨#[103,115,117,98]⟩ st kids=st:=by rw [hs1,if_neg hlv]
    exact zwd
   have d5:((kids.length:Int)==3)=false:=by simp;omega
   have hs0:Ih ⟨#[103,115,117,98]⟩ st kids=st:=BZ h3;clear h3;exact XE
  have hx_gsub:=hx;clear hx
  by_cases hx:tx=⟨#[108,101,110,103,116,104]⟩
  ·obtain rfl:tx=⟨#[108,101,110,103,116,104]⟩:=hx;have ha0:Gi ⟨#[108,101,110,103,116,104]⟩= -1:=by decide
   have hs0:Ih ⟨#[108,101,110,103,116,104]⟩ st kids=st:=Uo zi
   by_cases h1:kids.length=1
   ·have hlt:0<kids.length:=by omega
    have d5:((kids.length:Int)==1)=true:=by simp [h1]
    obtain ⟨g3,o3,fm3,na3,nc3,hna,kc0,kc1,kc2,kc3,kc4,hkn⟩:=CK.kid HCw1.1 HKD.1 hlt;subst hna;have lg3:g3<w1.heap.size:=Cd kc0;have d6:(0:Int)<(kids.length:Int):=by omega
    have q4:(kids[0].kind==4)=false:=hnl rfl h1;clear h1;simp only [Nat.zero_mul,Nat.add_zero] at kc0;exact XE
   have d5:((kids.length:Int)==1)=false:=by simp;omega
   clear h1;exact XE
  have hx_length:=hx;clear hx
  by_cases hx:tx=⟨#[115,112,108,105,116]⟩
  ·obtain rfl:tx=⟨#[115,112,108,105,116]⟩:=hx;have ha0:Gi ⟨#[115,112,108,105,116]⟩=1:=by decide
   have hs0:Ih ⟨#[115,112,108,105,116]⟩ st kids=st:=Uo zi;exact XE
  have hx_split:=hx;clear hx
  by_cases hx:tx=⟨#[101,120,112,105,114,101]⟩
  ·obtain rfl:tx=⟨#[101,120,112,105,114,101]⟩:=hx;have ha0:Gi ⟨#[101,120,112,105,114,101]⟩=0:=by decide
   have hs0:Ih ⟨#[101,120,112,105,114,101]⟩ st kids=st:=Uo zi;exact XE
  have hx_expire:=hx;clear hx;have ha0:Gi tx= -1:=by unfold Gi;rw [if_neg (show ¬tx=Wc from hx_split),if_neg (show ¬tx=Qq from hx_expire)]
  have hs0:Ih tx st kids=st:=Uo (fun h=>h.elim hx_sub hx_gsub);have z_sub:(tx.toList== [115,117,98])=false:=Ik hx_sub;have z_gsub:(tx.toList== [103,115,117,98])=false:=Ik hx_gsub;have z_length:(tx.toList== [108,101,110,103,116,104])=false:=Ik hx_length;have z_split:(tx.toList== [115,112,108,105,116])=false:=Ik hx_split;have z_expire:(tx.toList== [101,120,112,105,114,101])=false:=Ik hx_expire;clear hx_sub hx_gsub hx_length hx_split hx_expire;exact XE
 obtain ⟨rfl,T1,ua1,uc1,hc,hs,hB,off_B⟩:=hcut;generalize wc=wl at*
 have HCl:=zh hc;have HSl:=zh hs;have RBl:=zh hB;clear hc hs hB hnl HCw1 HSw1 Rw1_B;obtain ⟨arr,harr⟩:∃a,a=Gi tx:=⟨_,rfl⟩;have har3:arr=1∨arr=0∨arr= -1:=by rw [harr];exact EP tx
 have hcf0:=HCF.1;rw [←harr] at hcf0⊢;have HCF2:=zh hcf0;clear hcf0 HCF harr;obtain ⟨l_c,l_mf,l_ms,l_mn⟩:=HCl.1.lt;obtain ⟨l_B,xB⟩:=Bv RBl.1
 go_wp2_with fail
 clear l_c l_B xB l_mf l_ms l_mn
 go_loopg [96] (kids.length+1) (fun g j wr=>Abm K rec arr kids st' T w (w.heap.size) (.cells #[.int .i64 kd,.string tx,.float .f64 fm,.slice na kids.length nc,.complex .f64 re im] 50 (0,0)) g j wr)
 case atStart=>exact ⟨0,rfl,Nat.zero_le _,rfl,_,_,_,_,HCF2.1,HCl.1,HSl.1,RBl.1,off_B⟩
 obtain ⟨k,rfl,hk1,hk2,st2,T2,ua2,uc2,hcf,hc,hs,hB,off_B⟩:=hrel;have HCr:=zh hc;have HSr:=zh hs;have RB:=zh hB;clear hc hs hB
 by_cases hlt:k<kids.length
 ·obtain ⟨g3,o3,fm3,na3,nc3,hna,kc0,kc1,kc2,kc3,kc4,hkn⟩:=CK.kid HCr.1 HKD.1 hlt;subst hna;have lg3:g3<wr.heap.size:=Cd kc0;rw [List.drop_eq_getElem_cons hlt,Nw] at hcf;generalize kids[k]=kk at*
  simp only [Option.bind_eq_bind,Option.bind_eq_some_iff] at hcf;obtain ⟨s3,hr,hcf⟩:=hcf
  cases gk with
  |zero=>omega
  | succ f=>
   go_upto_block 2 with fail
   go_cut [] (fun W=>Abl K T2 wr s3 (w.heap.size) (.cells #[.int .i64 kd,.string tx,.float .f64 fm,.slice (some ⟨g3,o3,none⟩) kids.length nc,.complex .f64 re im] 50 (0,0)) W)
   case first=>
    clear hcf
    by_cases hka:(k:Int)=arr
    ·rw [if_pos hka] at hr;unfold GR at hr;subst hka
     by_cases h4:kk.kind=4
     ·rw [if_pos h4] at hr;have t2:(kk.kind==4)=true:=by simp [h4]
      clear h4
      focus
       obtain ⟨l_c,l_mf,l_ms,l_mn⟩:=HCr.1.lt;obtain ⟨l_B,xB⟩:=Bv RB.1;have HSz:=zh (Ak.refl K T2 wr)
       go_wp2_with fail
       refine YG ?_;rintro w51 ⟨Kw51,cw51_Kd⟩;have ⟨n_c_Kd,n_Kd_c⟩:=Ai l_c;have ⟨n_mf_Kd,n_Kd_mf⟩:=Ai l_mf;have ⟨n_ms_Kd,n_Kd_ms⟩:=Ai l_ms;have ⟨n_mn_Kd,n_Kd_mn⟩:=Ai l_mn;have ⟨n_B_Kd,n_Kd_B⟩:=Ai l_B;have o_Kd:wr.heap.size≤wr.heap.size:=Nat.le_refl _;have off_Kd:Fu K T2 (wr.heap.size):=Ao HCr.1 (Nat.le_refl _);have o0_Kd:K.w0.heap.size≤wr.heap.size:=Nat.le_trans HCr.1.keep.size (Nat.le_refl _);have Rw51_B:=zh (Kw51.at RB.1 qg);have HCw51:=zh (HCr.1.kp0 Kw51);have HSw51:=zh (HSz.1.loc Kw51 qg);have Rw51_Kd:=zh cw51_Kd;clear Kw51 cw51_Kd l_c l_B xB l_mf l_ms l_mn RB HCr HSz;refine (Od hK HCw51.1 hkn).mono ?_;rintro r e52 ⟨T52,ua52,uc52,rfl,hc,hs⟩;have off2_B:=hs.off (Ad Rw51_B.1) off_B;have Re52_B:=zh (hs.at Rw51_B.1 off_B);have off2_Kd:=hs.off (Ad Rw51_Kd.1) off_Kd;have Re52_Kd:=zh (hs.at Rw51_Kd.1 off_Kd);have off_B':=off2_B;have off_Kd':=off2_Kd;have HCe52:=zh hc;have HSe52:=zh (HSw51.1.trans hs);clear Rw51_B off_B Rw51_Kd off_Kd HCw51 HSw51 hc hs;have off_B:=off_B';clear off_B' off2_B;have off_Kd:=off_Kd';clear off_Kd' off2_Kd;obtain ⟨l_c,xc⟩:=Cp HCe52.1.row;obtain ⟨-,l_mf,l_ms,l_mn⟩:=HCe52.1.lt;have l_B:=Ad Re52_B.1;obtain ⟨l_Kd,xKd⟩:=Bv Re52_Kd.1;obtain ⟨oo,hoo⟩:∃x,x=Iv K.g (Bi K.g st2 kk) kk.name:=⟨_,rfl⟩;rw [←hoo] at hr;obtain ⟨hul,rfl⟩:=Jh hr;have HUL:=zh hul;have HOO:=zh hoo
       clear hul hoo hr
       go_upto_region 29 with fail
       obtain ⟨i1,hi1,hi2,hi3,hi4⟩:=Oi;have HI:=zh (And.intro hi1 (And.intro hi2 (And.intro hi3 hi4)));clear hi1 hi2 hi3 hi4;have HOF:=zh (IQ hK HCe52.1 kk.name);rw [←HOO.1] at HOF;have hul0:(Bi K.g st2 kk).uses.length=(oo).2.uses.length:=by rw [HOO.1,Qp]
       try clear hcf
       try clear kc0
       try clear kc1
       try clear kc2
       try clear kc3
       try clear kc4
       try clear hcs
       try clear hcp
       try clear hlk
       try clear HREC
       try clear HKD
       try clear HSP
       try clear HFA
       try clear HFN
       try clear HFI
       try clear HCF
       try clear hkn
       try clear hm
       try clear hkl
       try clear hlt
       try clear hlt2
       try clear lg2
       try clear lg3
       try clear e4
       try clear e5
       try clear hk1
       try clear hi
       try clear o0_B
       try clear o_B
       try clear n_c_B
       try clear n_mf_B
       try clear n_ms_B
       try clear n_mn_B
       try clear n_Kd_B
       try clear n_B_c
       try clear n_B_mf
       try clear n_B_ms
       try clear n_B_mn
       try clear n_B_Kd
       try clear o0_Kd
       try clear o_Kd
       try clear n_c_Kd
       try clear n_mf_Kd
       try clear n_ms_Kd
       try clear n_mn_Kd
       try clear n_Kd_c
       try clear n_Kd_mf
       try clear n_Kd_ms
       try clear n_Kd_mn
       try clear e19
       try clear e20
       try clear e11
       try clear e41
       try clear e32
       try clear e33
       try clear e34
       try clear e35
       try clear e4
       try clear e5
       try clear f19
       try clear f20
       try clear f11
       try clear f41
       try clear f32
       try clear f33
       try clear f34
       try clear f35
       try clear f4
       try clear f5
       try clear HNR
       go_region_law (first|((fail_if_success (have hm9:=hcu));refine Bd (f:=75) (vals:= #[.pointer (some ⟨K.c,0,none⟩),.string kk.name]) rfl _ rfl qh (HOF.1 _ jg) ?_;rintro v u_ ⟨rfl,hcu,hsu⟩;have l_c2:=Ad hcu.row;have q0:=Aa hcu.row 0;have q1:=Aa hcu.row 1;have q2:=Aa hcu.row 2;have q3:=Aa hcu.row 3;have q4:=Aa hcu.row 4;have q5:=Aa hcu.row 5;have q6:=Aa hcu.row 6;have q7:=Aa hcu.row 7;have q8:=Aa hcu.row 8;have q9:=Aa hcu.row 9;have q10:=Aa hcu.row 10;simp at q0 q1 q2 q3 q4 q5 q6 q7 q8 q9 q10;have r_Kd:=hsu.at Re52_Kd.1 off_Kd;have lr_Kd:=Ad r_Kd;have zKd_0:=Aa r_Kd 0;have zKd_1:=Aa r_Kd 1;have zKd_2:=Aa r_Kd 2;have zKd_3:=Aa r_Kd 3;have zKd_4:=Aa r_Kd 4;simp at zKd_0 zKd_1 zKd_2 zKd_3 zKd_4)|(refine Gr (fun W=>Ac [] u_ W∧W.heap[u_.heap.size]? =some (.cells #[.complex .f64 kk.re kk.im,.int .i64 oo.1.1,.string oo.1.2,.bool true,.int .i64 0,.string ⟨#[]⟩,.bool false,.bool false] 106 (0,0))) ⟨jg,qd⟩ ?_;rintro wq ⟨hkq,cG⟩;refine Fk Ui rfl (.tmp 134) (.tmp 142) 68 rfl Tryz.underlying68 HI.1.1 HI.1.2.1 HI.1.2.2.1 HI.1.2.2.2 rfl zi zi rfl rfl (hcu.kp0 hkq).uses (c:= [.complex .f64 kk.re kk.im,.int .i64 oo.1.1,.string oo.1.2,.bool true,.int .i64 0,.string ⟨#[]⟩,.bool false,.bool false]) cG (x:=(⟨kk.re,kk.im,oo.1,true,Gs,false,false⟩:Kf)) (S:=fun _=>False) rfl (fun _ h=>h.elim) (fun _ h=>h.elim) (hcu.kp0 hkq).up (hcu.kp0 hkq).keep.size (Nat.le_of_lt HUL.1) ?_;rintro va wa fl hfl hka hown;obtain ⟨ka2,kc2,hva,-⟩:=hown.slice;obtain ⟨kn,hkn⟩:∃k,k=((oo.2).uses++ [(⟨kk.re,kk.im,oo.1,true,Gs,false,false⟩:Kf)]).length:=⟨_,rfl⟩;rw [←hkn] at hva;subst hva;have HKN:=zh hkn;clear hkn;have r_c:=hka.at (hcu.kp0 hkq).row (fun h=>(hcu.kp0 hkq).ns.1 (hfl _ h));have lw_c:=Ad r_c;have z0:=Aa r_c 0;have z1:=Aa r_c 1;have z2:=Aa r_c 2;have z3:=Aa r_c 3;have z4:=Aa r_c 4;have z5:=Aa r_c 5;have z6:=Aa r_c 6;have z7:=Aa r_c 7;have z8:=Aa r_c 8;have z9:=Aa r_c 9;have z10:=Aa r_c 10;have zf0:=Ab r_c 0;have zf1:=Ab r_c 1;have zf2:=Ab r_c 2;have zf3:=Ab r_c 3;have zf4:=Ab r_c 4;have zf5:=Ab r_c 5;have zf6:=Ab r_c 6;have zf7:=Ab r_c 7;have zf8:=Ab r_c 8;have zf9:=Ab r_c 9;have zf10:=Ab r_c 10;simp at z0 z1 z2 z3 z4 z5 z6 z7 z8 z9 z10))
       all_goals
        go_wp2_with fail
        go_meet
        have hkn:=HKN.1;subst hkn;exact CK.app' hK HSe52.1 Re52_B.1 off_B hsu hcu hkq hfl hka hown jg (ja r_c)
     rw [if_neg h4] at hr;simp only [Option.bind_eq_bind,Option.bind_eq_some_iff] at hr;obtain ⟨s2,hu1,hr⟩:=hr;have t2:(kk.kind==4)=false:=beq_false_of_ne h4;clear h4
     focus
      obtain ⟨l_c,l_mf,l_ms,l_mn⟩:=HCr.1.lt;obtain ⟨l_B,xB⟩:=Bv RB.1;have HSz:=zh (Ak.refl K T2 wr);obtain ⟨hul,rfl⟩:=Jh hu1;have HUL:=zh hul;clear hul hu1
      go_upto_region 23 with fail
      refine Bj (fun W=>Ac [] wr W∧W.heap[wr.heap.size]? =some (.cells #[.int .i64 kk.kind,.string kk.name,.float .f64 fm3,.slice na3 kk.kids.length nc3,.complex .f64 kk.re kk.im] 50 (0,0))) ⟨jg,jb⟩ ?_;rintro w51 ⟨Kw51,cw51_Kd⟩;have ⟨n_c_Kd,n_Kd_c⟩:=Ai l_c;have ⟨n_mf_Kd,n_Kd_mf⟩:=Ai l_mf;have ⟨n_ms_Kd,n_Kd_ms⟩:=Ai l_ms;have ⟨n_mn_Kd,n_Kd_mn⟩:=Ai l_mn;have ⟨n_B_Kd,n_Kd_B⟩:=Ai l_B;have o_Kd:wr.heap.size≤wr.heap.size:=Nat.le_refl _;have off_Kd:Fu K T2 (wr.heap.size):=Ao HCr.1 (Nat.le_refl _);have o0_Kd:K.w0.heap.size≤wr.heap.size:=Nat.le_trans HCr.1.keep.size (Nat.le_refl _);have Rw51_B:=zh (Kw51.at RB.1 qg);have HCw51:=zh (HCr.1.kp0 Kw51);have HSw51:=zh (HSz.1.loc Kw51 qg);have Rw51_Kd:=zh cw51_Kd;clear Kw51 cw51_Kd l_c l_B xB l_mf l_ms l_mn RB HCr HSz;obtain ⟨l_c,xc⟩:=Cp HCw51.1.row;obtain ⟨-,l_mf,l_ms,l_mn⟩:=HCw51.1.lt;have l_B:=Ad Rw51_B.1;obtain ⟨l_Kd,xKd⟩:=Bv Rw51_Kd.1;obtain ⟨i1,hi1,hi2,hi3,hi4⟩:=Oi;have HI:=zh (And.intro hi1 (And.intro hi2 (And.intro hi3 hi4)));clear hi1 hi2 hi3 hi4
      go_cut [] (fun W=>∃T' ua' uc',CK K T' ua' uc' ({st2 with uses:=st2.uses++ [(⟨kk.re,kk.im,Gs,false,Gs,false,true⟩:Kf)]}) W∧Ak K T2 T' w51 W)
      case first=>
       go_region_law (refine Gr (fun W=>Ac [] w51 W∧W.heap[w51.heap.size]? =some (.cells #[.complex .f64 kk.re kk.im,.int .i64 0,.string ⟨#[]⟩,.bool false,.int .i64 0,.string ⟨#[]⟩,.bool false,.bool true] 106 (0,0))) ⟨jg,qd⟩ ?_;rintro wq ⟨hkq,cG⟩;refine Fk Ui rfl (.tmp 105) (.tmp 109) 68 rfl Tryz.underlying68 HI.1.1 HI.1.2.1 HI.1.2.2.1 HI.1.2.2.2 rfl zi zi rfl rfl (HCw51.1.kp0 hkq).uses (c:= [.complex .f64 kk.re kk.im,.int .i64 0,.string ⟨#[]⟩,.bool false,.int .i64 0,.string ⟨#[]⟩,.bool false,.bool true]) cG (x:=(⟨kk.re,kk.im,Gs,false,Gs,false,true⟩:Kf)) (S:=fun _=>False) rfl (fun _ h=>h.elim) (fun _ h=>h.elim) (HCw51.1.kp0 hkq).up (HCw51.1.kp0 hkq).keep.size (Nat.le_of_lt HUL.1) ?_;rintro va wa fl hfl hka hown;obtain ⟨ka2,kc2,hva,-⟩:=hown.slice;obtain ⟨kn,hkn⟩:∃k,k=((st2).uses++ [(⟨kk.re,kk.im,Gs,false,Gs,false,true⟩:Kf)]).length:=⟨_,rfl⟩;rw [←hkn] at hva;subst hva;have HKN:=zh hkn;clear hkn;have r_c:=hka.at (HCw51.1.kp0 hkq).row (fun h=>(HCw51.1.kp0 hkq).ns.1 (hfl _ h));have lw_c:=Ad r_c;have z0:=Aa r_c 0;have z1:=Aa r_c 1;have z2:=Aa r_c 2;have z3:=Aa r_c 3;have z4:=Aa r_c 4;have z5:=Aa r_c 5;have z6:=Aa r_c 6;have z7:=Aa r_c 7;have z8:=Aa r_c 8;have z9:=Aa r_c 9;have z10:=Aa r_c 10;have zf0:=Ab r_c 0;have zf1:=Ab r_c 1;have zf2:=Ab r_c 2;have zf3:=Ab r_c 3;have zf4:=Ab r_c 4;have zf5:=Ab r_c 5;have zf6:=Ab r_c 6;have zf7:=Ab r_c 7;have zf8:=Ab r_c 8;have zf9:=Ab r_c 9;have zf10:=Ab r_c 10;simp at z0 z1 z2 z3 z4 z5 z6 z7 z8 z9 z10)
       all_goals
        go_wp2_with fail
        go_meet
        have hkn:=HKN.1;subst hkn;exact CK.app hK (Ak.refl K T2 w51) HCw51.1 hkq hfl hka hown jg (ja r_c)
      obtain ⟨T52,ua52,uc52,hc,hs⟩:=hcut;generalize wc=w53 at*
      clear l_c xc l_B l_Kd xKd l_mf l_ms l_mn HI;have off2_B:=hs.off (Ad Rw51_B.1) off_B;have Rw53_B:=zh (hs.at Rw51_B.1 off_B);have off2_Kd:=hs.off (Ad Rw51_Kd.1) off_Kd;have Rw53_Kd:=zh (hs.at Rw51_Kd.1 off_Kd);have off_B':=off2_B;have off_Kd':=off2_Kd;have HCw53:=zh hc;have HSw53:=zh (HSw51.1.trans hs);clear Rw51_B off_B Rw51_Kd off_Kd HCw51 HSw51 hc hs;have off_B:=off_B';clear off_B' off2_B;have off_Kd:=off_Kd';clear off_Kd' off2_Kd;obtain ⟨l_c,l_mf,l_ms,l_mn⟩:=HCw53.1.lt;have l_B:=Ad Rw53_B.1;obtain ⟨l_Kd,xKd⟩:=Bv Rw53_Kd.1
      go_wp2_with fail
      clear l_c l_B l_Kd xKd l_mf l_ms l_mn;refine (HREC.1 _ _ _ _ hr hkn _ _ _ _ HCw53.1).mono ?_;rintro r e54 ⟨T54,ua54,uc54,rfl,hc,hs⟩;have off2_B:=hs.off (Ad Rw53_B.1) off_B;have Re54_B:=zh (hs.at Rw53_B.1 off_B);have off2_Kd:=hs.off (Ad Rw53_Kd.1) off_Kd;have Re54_Kd:=zh (hs.at Rw53_Kd.1 off_Kd);have off_B':=off2_B;have off_Kd':=off2_Kd;have HCe54:=zh hc;have HSe54:=zh (HSw53.1.trans hs);clear Rw53_B off_B Rw53_Kd off_Kd HCw53 HSw53 hc hs;have off_B:=off_B';clear off_B' off2_B;have off_Kd:=off_Kd';clear off_Kd' off2_Kd;obtain ⟨l_c,l_mf,l_ms,l_mn⟩:=HCe54.1.lt;have l_B:=Ad Re54_B.1;have l_Kd:=Ad Re54_Kd.1
      go_wp2_with fail
      go_meet
      case rel=>exact ⟨_,_,_,HCe54.1,HSe54.1,Re54_B.1,off_B⟩
    rw [if_neg hka] at hr;have t1:((k:Int) !=arr)=true:=by simp [hka]
    clear hka
    focus
     obtain ⟨l_c,l_mf,l_ms,l_mn⟩:=HCr.1.lt;obtain ⟨l_B,xB⟩:=Bv RB.1;have HSz:=zh (Ak.refl K T2 wr)
     go_wp2_with fail
     refine YG ?_;rintro w51 ⟨Kw51,cw51_Kd⟩;have ⟨n_c_Kd,n_Kd_c⟩:=Ai l_c;have ⟨n_mf_Kd,n_Kd_mf⟩:=Ai l_mf;have ⟨n_ms_Kd,n_Kd_ms⟩:=Ai l_ms;have ⟨n_mn_Kd,n_Kd_mn⟩:=Ai l_mn;have ⟨n_B_Kd,n_Kd_B⟩:=Ai l_B;have o_Kd:wr.heap.size≤wr.heap.size:=Nat.le_refl _;have off_Kd:Fu K T2 (wr.heap.size):=Ao HCr.1 (Nat.le_refl _);have o0_Kd:K.w0.heap.size≤wr.heap.size:=Nat.le_trans HCr.1.keep.size (Nat.le_refl _);have Rw51_B:=zh (Kw51.at RB.1 qg);have HCw51:=zh (HCr.1.kp0 Kw51);have HSw51:=zh (HSz.1.loc Kw51 qg);have Rw51_Kd:=zh cw51_Kd;clear Kw51 cw51_Kd l_c l_B xB l_mf l_ms l_mn RB HCr HSz;refine jrc ?_;rintro r e52 ⟨T52,ua52,uc52,rfl,hc,hs⟩;have off2_B:=hs.off (Ad Rw51_B.1) off_B;have Re52_B:=zh (hs.at Rw51_B.1 off_B);have off2_Kd:=hs.off (Ad Rw51_Kd.1) off_Kd;have Re52_Kd:=zh (hs.at Rw51_Kd.1 off_Kd);have off_B':=off2_B;have off_Kd':=off2_Kd;have HCe52:=zh hc;have HSe52:=zh (HSw51.1.trans hs);clear Rw51_B off_B Rw51_Kd off_Kd HCw51 HSw51 hc hs;have off_B:=off_B';clear off_B' off2_B;have off_Kd:=off_Kd';clear off_Kd' off2_Kd;obtain ⟨l_c,l_mf,l_ms,l_mn⟩:=HCe52.1.lt;have l_B:=Ad Re52_B.1;have l_Kd:=Ad Re52_Kd.1
     go_wp2_with fail
     go_meet
     case rel=>exact ⟨_,_,_,HCe52.1,HSe52.1,Re52_B.1,off_B⟩
   obtain ⟨T5,ua5,uc5,hc,hs,hB,off_B2⟩:=hcut;generalize wc=wj at*
   have HCj:=zh hc;have HSj:=zh (HSr.1.trans hs);have RJ:=zh hB;clear hc hs hB off_B HCr HSr RB;have off_B:=off_B2;clear off_B2;obtain ⟨l_c,l_mf,l_ms,l_mn⟩:=HCj.1.lt;have l_B:=Ad RJ.1
   go_wp2_with fail
   go_roundg f
   case measure=>omega
   exact ⟨k+1,by first|rfl|(simp;done)|(simp;omega),by omega,by omega,_,_,_,_,hcf,HCj.1,HSj.1,RJ.1,off_B⟩
 have hke:k=kids.length:=by omega
 subst hke;rw [List.drop_length,Nw] at hcf;obtain rfl:st2=st':=by simpa using hcf
 clear hcf;obtain ⟨l_c,l_mf,l_ms,l_mn⟩:=HCr.1.lt;have l_B:=Ad RB.1
 go_wp2_with fail
 refine Cq (v:= .tuple #[]) (fun W=>Ac [] wr W) jg (fun w51 hW=> ?_) rfl (fun w51 hW=> ?_)
 ·have Kw51:Ac [] wr w51:=hW;exact Le
 have Kw51:Ac [] wr w51:=hW;have Rw51_B:=zh (Kw51.at RB.1 qg);have HCw51:=zh (HCr.1.kp0 Kw51);have HSw51:=zh (HSr.1.loc Kw51 qg);clear Kw51 l_c l_B l_mf l_ms l_mn RB HCr HSr;exact ZO
end Go.Proofs.YtkfillfkbhbbjaaGreatDoor
