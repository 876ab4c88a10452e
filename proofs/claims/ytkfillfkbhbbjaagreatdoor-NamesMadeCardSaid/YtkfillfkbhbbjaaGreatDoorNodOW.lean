/- Hed, Chk, BltL, NodW, NodVW, NodOW. -/
import Derived.Test.YtkfillfkbhbbjaaGreatDoorArr
import Derived.Test.YtkfillfkbhbbjaaGreatDoorInfo
import Derived.Test.YtkfillfkbhbbjaaGreatDoorNodA
import Derived.Test.YtkfillfkbhbbjaaGreatDoorNodJ
import Derived.Test.YtkfillfkbhbbjaaGreatDoorRegI
set_option maxRecDepth 100000
set_option maxHeartbeats 4000000
set_option linter.unusedSimpArgs false
set_option linter.unusedVariables false
namespace Go.Proofs.YtkfillfkbhbbjaaGreatDoor
open Go.RowKit
theorem LO{K:Ba}(hK:Dp K){w:World}{st':NS}(h00:Ac [] K.w0 w)(hcr:w.heap[K.c]? =some (XS K IR none 0))(hmf:w.heap[K.mf]? =some (.map #[] 0))(hms:w.heap[K.ms]? =some (.map #[] 0))(hmn:w.heap[K.mn]? =some (.map #[] 0))(hst:Er K.g 0 K.g.funcs IR=st'):Calls Tryz.prog 24 #[.pointer (some ⟨K.c,0,none⟩)] w fun r w'=>∃T ua uc,r= .returned (.tuple #[])∧CK K T ua uc st' w':=by
 have hfs:=hK.small;have HK00:=zh h00;have HCR:=zh hcr;have HMF:=zh hmf;have HMS:=zh hms;have HMN:=zh hmn;clear h00 hcr hmf hms hmn
 go_enter Tryz.func24,Tryz.ntmps24
 obtain ⟨l_c,xc_0,xc_1,xc_2,xc_3,xc_4,xc_5,xc_6,xc_7,xc_8,xc_9,xc_10,yc_0,yc_1,yc_2,yc_3,yc_4,yc_5,yc_6,yc_7,yc_8,yc_9,yc_10⟩:=Cp HCR.1;obtain ⟨fa,hfa0⟩:∃x,K.fa=x:=⟨_,rfl⟩;rw [hfa0] at xc_1;have HFA0:=zh hfa0;clear hfa0
 go_wp2_with fail
 clear l_c xc_0 xc_1 xc_2 xc_3 xc_4 xc_5 xc_6 xc_7 xc_8 xc_9 xc_10 yc_0 yc_1 yc_2 yc_3 yc_4 yc_5 yc_6 yc_7 yc_8 yc_9 yc_10
 go_loopg [18] (K.g.funcs.length+1) (fun g j wr=>Aaq K w g j wr)
 case atStart=>exact ⟨0,rfl,Nat.zero_le _,rfl,Ac.refl _ _,[],0,HMF.1,fun s=>rfl⟩
 obtain ⟨k,rfl,hk1,hk2,hk,es,ek,hmf,hmi⟩:=hrel;have HKr:=zh hk;have RM:=zh hmf;have HMI:=zh hmi;have RC:=zh (hk.at HCR.1 (by simp [hK.ne.1]));have hkw:Ac [] K.w0 wr:=HK00.1.trans hk (by simp;exact hK.mf);clear hk hmf hmi
 by_cases hlt:k<K.g.funcs.length
 ·obtain ⟨g,o,pa,pc,fmb,nab,ncb,hfa,c0,c1,c2,c3,c4,c5,c6,c7,hsp,hcap⟩:=JB hK hkw hlt;have lg:g<wr.heap.size:=Cd c0;have efa:=HFA0.1.symm.trans hfa;subst efa;clear hfa;have hta:K.g.funcs.take (k+1)=K.g.funcs.take k++ [K.g.funcs[k]]:=List.take_succ_eq_append_getElem hlt;generalize K.g.funcs[k]=fu at*
  have n_c_mf:K.c≠K.mf:=hK.ne.1;have n_mf_c:=Ne.symm n_c_mf;have o_mf0:=hK.mf
  cases gk with
  |zero=>omega
  | succ f=>
   have hkv0:=HMI.1 fu.name
   by_cases h0:Cb fu.name (K.g.funcs.take k) 0=0
   ·have hkv:Ma fu.name es=none:=by rw [hkv0,if_pos h0]
    clear hkv0;have l_c:=Ad RC.1;have l_mf:=Ad RM.1
    go_upto_region 3 with fail
    refine jzc ?_;rintro w51 ⟨Kw51,cw51_F⟩;have ⟨n_c_F,n_F_c⟩:=Ai l_c;have ⟨n_mf_F,n_F_mf⟩:=Ai l_mf;have o_F:w.heap.size≤wr.heap.size:=HKr.1.size;have Rw51_c:=zh (Kw51.at RC.1 qg);have Rw51_mf:=zh (Kw51.at RM.1 qg);have HKw51:=zh (HKr.1.trans Kw51 qg);have Rw51_F:=zh cw51_F;clear Kw51 cw51_F l_c l_mf RC RM HKr;obtain ⟨l_c,xc_0,xc_1,xc_2,xc_3,xc_4,xc_5,xc_6,xc_7,xc_8,xc_9,xc_10,yc_0,yc_1,yc_2,yc_3,yc_4,yc_5,yc_6,yc_7,yc_8,yc_9,yc_10⟩:=Cp Rw51_c.1;have l_mf:=Ad Rw51_mf.1;obtain ⟨l_F,xF⟩:=Rh Rw51_F.1;have hlk:=UE (W:=w51.drew) Rw51_mf.1 hkv
    go_cut [4,5] (fun s4 s5 W=>s4= .int .i64 0∧s5= .bool false∧Ac [] w51 W)
    case first=>
     go_region
     all_goals
      go_wp2_with fail
      go_meet
      case rel=>exact ⟨rfl,rfl,jg⟩
    obtain ⟨rfl,rfl,hk⟩:=hcut;generalize wc=w52 at*
    have Rw52_c:=zh (hk.at Rw51_c.1 qg);have Rw52_mf:=zh (hk.at Rw51_mf.1 qg);have Rw52_F:=zh (hk.at Rw51_F.1 qg);have HKw52:=zh (HKw51.1.trans hk qg);clear hk Rw51_c Rw51_mf Rw51_F HKw51 l_c xc_0 xc_1 xc_2 xc_3 xc_4 xc_5 xc_6 xc_7 xc_8 xc_9 xc_10 yc_0 yc_1 yc_2 yc_3 yc_4 yc_5 yc_6 yc_7 yc_8 yc_9 yc_10 l_mf l_F xF;obtain ⟨l_c,xc_0,xc_1,xc_2,xc_3,xc_4,xc_5,xc_6,xc_7,xc_8,xc_9,xc_10,yc_0,yc_1,yc_2,yc_3,yc_4,yc_5,yc_6,yc_7,yc_8,yc_9,yc_10⟩:=Cp Rw52_c.1;have l_mf:=Ad Rw52_mf.1;obtain ⟨l_F,xF⟩:=Rh Rw52_F.1
    go_upto_region 5 with fail
    have hup:=TA (W:=w52.drew) Rw52_mf.1 fu.name (.int .i64 ((k:Int)+1))
    go_wp2_with fail
    go_region
    all_goals
     have l_c:=Ad Rw52_c.1;have l_mf:=Ad Rw52_mf.1;have l_F:=Ad Rw52_F.1
     go_wp2_with fail
     go_roundg f
     case measure=>omega
     refine Ch (fun W=>Ac [K.mf] w52 W∧W.heap[K.mf]? =some (.map (Cm (fun s=>Value.string s) (Cw fu.name (.int .i64 ((k:Int)+1)) ek es).1) (Cw fu.name (.int .i64 ((k:Int)+1)) ek es).2)) ⟨jg,(zc Rw52_mf.1 l_mf)⟩ ?_;rintro w53 ⟨Kw53,cw53_mf⟩;have Rw53_c:=zh (Kw53.at Rw52_c.1 (by simp [n_c_mf]));have Rw53_F:=zh (Kw53.at Rw52_F.1 (by simp [n_F_mf]));have HKw53:=zh (HKw52.1.trans Kw53 qg);have Rw53_mf:=zh cw53_mf;clear Kw53 cw53_mf l_c l_mf l_F Rw52_c Rw52_F HKw52 Rw52_mf;exact ⟨k+1,by first|rfl|(simp;done)|(simp;omega),by omega,by omega,HKw53.1,_,_,Rw53_mf.1,by rw [hta];exact HMI.1.put h0 (by rw [List.length_take,Nat.min_eq_left hk1];rfl)⟩
   obtain ⟨vv,hkv⟩:∃v,Ma fu.name es=some v:=⟨_,by rw [hkv0,if_neg h0]⟩;clear hkv0;have l_c:=Ad RC.1;have l_mf:=Ad RM.1
   go_upto_region 3 with fail
   refine jzc ?_;rintro w51 ⟨Kw51,cw51_F⟩;have ⟨n_c_F,n_F_c⟩:=Ai l_c;have ⟨n_mf_F,n_F_mf⟩:=Ai l_mf;have o_F:w.heap.size≤wr.heap.size:=HKr.1.size;have Rw51_c:=zh (Kw51.at RC.1 qg);have Rw51_mf:=zh (Kw51.at RM.1 qg);have HKw51:=zh (HKr.1.trans Kw51 qg);have Rw51_F:=zh cw51_F;clear Kw51 cw51_F l_c l_mf RC RM HKr;obtain ⟨l_c,xc_0,xc_1,xc_2,xc_3,xc_4,xc_5,xc_6,xc_7,xc_8,xc_9,xc_10,yc_0,yc_1,yc_2,yc_3,yc_4,yc_5,yc_6,yc_7,yc_8,yc_9,yc_10⟩:=Cp Rw51_c.1;have l_mf:=Ad Rw51_mf.1;obtain ⟨l_F,xF⟩:=Rh Rw51_F.1;have hlk:=UD (W:=w51.drew) Rw51_mf.1 hkv
   go_cut [4,5] (fun s4 s5 W=>s4=vv∧s5= .bool true∧Ac [] w51 W)
   case first=>
    go_region
    all_goals
     go_wp2_with fail
     go_meet
     case rel=>exact ⟨rfl,rfl,jg⟩
   obtain ⟨rfl,rfl,hk⟩:=hcut;generalize wc=w52 at*
   have Rw52_c:=zh (hk.at Rw51_c.1 qg);have Rw52_mf:=zh (hk.at Rw51_mf.1 qg);have Rw52_F:=zh (hk.at Rw51_F.1 qg);have HKw52:=zh (HKw51.1.trans hk qg);clear hk Rw51_c Rw51_mf Rw51_F HKw51 l_c xc_0 xc_1 xc_2 xc_3 xc_4 xc_5 xc_6 xc_7 xc_8 xc_9 xc_10 yc_0 yc_1 yc_2 yc_3 yc_4 yc_5 yc_6 yc_7 yc_8 yc_9 yc_10 l_mf l_F xF;have l_c:=Ad Rw52_c.1;have l_mf:=Ad Rw52_mf.1;have l_F:=Ad Rw52_F.1
   go_wp2_with fail
   go_roundg f
   case measure=>omega
   exact ⟨k+1,by first|rfl|(simp;done)|(simp;omega),by omega,by omega,HKw52.1,_,_,Rw52_mf.1,by rw [hta];exact HMI.1.skip h0⟩
 have hke:k=K.g.funcs.length:=by omega
 have hmi2:=HMI.1;rw [hke,List.take_length] at hmi2;obtain ⟨T,ua,uc,hck⟩:=QN hK HK00.1 HKr.1 HCR.1 HMS.1 HMN.1 RM.1 hmi2;clear hmi2 hke hkw HKr RM HMI RC
 rename World=>wo
 have HC0:=zh hck;have HS0:=zh (Ak.refl K T wo);clear hck;obtain ⟨l_c,xc_0,xc_1,xc_2,xc_3,xc_4,xc_5,xc_6,xc_7,xc_8,xc_9,xc_10,yc_0,yc_1,yc_2,yc_3,yc_4,yc_5,yc_6,yc_7,yc_8,yc_9,yc_10⟩:=Cp HC0.1.row;obtain ⟨-,l_mf,l_ms,l_mn⟩:=HC0.1.lt;rw [HFA0.1] at xc_1
 go_wp2_with fail
 clear l_c xc_0 xc_1 xc_2 xc_3 xc_4 xc_5 xc_6 xc_7 xc_8 xc_9 xc_10 yc_0 yc_1 yc_2 yc_3 yc_4 yc_5 yc_6 yc_7 yc_8 yc_9 yc_10 l_mf l_ms l_mn
 go_loopg [50] (K.g.funcs.length+1) (fun g j wr=>Aap K T ua uc st' wo g j wr)
 case atStart=>exact ⟨0,rfl,Nat.zero_le _,rfl,IR,hst,HC0.1,HS0.1⟩
 rename World=>wp
 obtain ⟨k,rfl,hk1,hk2,st1,hh,hc,hs⟩:=hrel
 by_cases hlt:k<K.g.funcs.length
 ·obtain ⟨g,o,pa,pc,fmb,nab,ncb,hfa,c0,c1,c2,c3,c4,c5,c6,c7,hsp,hcap⟩:=JB hK hc.keep hlt;have lg:g<wp.heap.size:=Cd c0;have efa:=HFA0.1.symm.trans hfa;subst efa;clear hfa;have HCp:=zh hc;have HSp:=zh hs;have HSPP:=zh hsp;have hps:K.g.funcs[k].params.length≤1000000:=hK.psmall _ (List.getElem_mem hlt);clear hc hs hsp;rw [List.drop_eq_getElem_cons hlt,Er] at hh;generalize K.g.funcs[k]=fu at*
  cases gk with
  |zero=>omega
  | succ f=>
   obtain ⟨l_c,l_mf,l_ms,l_mn⟩:=HCp.1.lt
   go_upto_block 4 with fail
   refine Bj (fun W=>Ac [] wp W∧W.heap[wp.heap.size]? =some (.cells #[.string fu.name,.slice pa fu.params.length pc,.int .i64 fu.body.kind,.string fu.body.name,.float .f64 fmb,.slice nab fu.body.kids.length ncb,.complex .f64 fu.body.re fu.body.im,.complex .f64 fu.re fu.im] 61 (0,0))) ⟨jg,jb⟩ ?_;rintro w21 ⟨Kw21,cw21_F⟩;have ⟨n_c_F,n_F_c⟩:=Ai l_c;have ⟨n_mf_F,n_F_mf⟩:=Ai l_mf;have ⟨n_ms_F,n_F_ms⟩:=Ai l_ms;have ⟨n_mn_F,n_F_mn⟩:=Ai l_mn;have o_F:wo.heap.size≤wp.heap.size:=HSp.1.size;have off_F:Fu K T (wp.heap.size):=Ao HCp.1 (Nat.le_refl _);have o0_F:K.w0.heap.size≤wp.heap.size:=Nat.le_trans HCp.1.keep.size (Nat.le_refl _);have HCw21:=zh (HCp.1.kp0 Kw21);have HSw21:=zh (HSp.1.loc Kw21 qg);have Rw21_F:=zh cw21_F;clear Kw21 cw21_F l_c l_mf l_ms l_mn HCp HSp
   go_cut [] (fun W=>CK K T ua uc (if flook K.g fu.name≠k+1 then Al st1 fu.re fu.im 29 else if Am fu.name=true then Al st1 fu.re fu.im 28 else st1) W∧Ak K T T wo W∧W.heap[wp.heap.size]? =some (.cells #[.string fu.name,.slice pa fu.params.length pc,.int .i64 fu.body.kind,.string fu.body.name,.float .f64 fmb,.slice nab fu.body.kids.length ncb,.complex .f64 fu.body.re fu.body.im,.complex .f64 fu.re fu.im] 61 (0,0)))
   case first=>
    obtain ⟨fl,hfl⟩:∃x,x=flook K.g fu.name:=⟨_,rfl⟩;have HFL:=zh hfl
    by_cases h0:fl=k+1
    ·have hf0:flook K.g fu.name=k+1:=hfl.symm.trans h0;have b1:((fl:Int)==(k:Int)+1)=true:=by simp;omega
     have b2:((fl:Int) !=(k:Int)+1)=false:=by simp;omega
     have b3:(fl:Int)=(k:Int)+1:=by omega
     clear hfl
     by_cases hsp:Am fu.name=true
     ·have HST:Hd ((if flook K.g fu.name≠k+1 then Al st1 fu.re fu.im 29 else if Am fu.name=true then Al st1 fu.re fu.im 28 else st1)=Al st1 fu.re fu.im 28):=zh (by simp [hf0,hsp]);clear h0 b3 hf0;obtain ⟨l_c,xc_0,xc_1,xc_2,xc_3,xc_4,xc_5,xc_6,xc_7,xc_8,xc_9,xc_10,yc_0,yc_1,yc_2,yc_3,yc_4,yc_5,yc_6,yc_7,yc_8,yc_9,yc_10⟩:=Cp HCw21.1.row;obtain ⟨-,l_mf,l_ms,l_mn⟩:=HCw21.1.lt;obtain ⟨l_F,xF⟩:=Rh Rw21_F.1
      go_upto_region 10 with fail
      have hlk:=HCw21.1.flook' fu.name (v:=(fl:Int)) (by rw [HFL.1])
      go_cut [55] (fun s55 W=>s55= .bool false∧Ac [] w21 W)
      case first=>
       exact RV
      obtain ⟨rfl,hk⟩:=hcut;generalize wc=w31 at*
      have Rw31_F:=zh (hk.at Rw21_F.1 qg);have HCw31:=zh (HCw21.1.kp0 hk);have HSw31:=zh (HSw21.1.loc hk qg);clear hk Rw21_F HCw21 HSw21 l_c xc_0 xc_1 xc_2 xc_3 xc_4 xc_5 xc_6 xc_7 xc_8 xc_9 xc_10 yc_0 yc_1 yc_2 yc_3 yc_4 yc_5 yc_6 yc_7 yc_8 yc_9 yc_10 l_F xF l_mf l_ms l_mn;obtain ⟨l_c,l_mf,l_ms,l_mn⟩:=HCw31.1.lt;obtain ⟨l_F,xF⟩:=Rh Rw31_F.1
      go_wp2_with fail
      clear l_c l_F xF l_mf l_ms l_mn;refine (Dk fu.name _).mono ?_;rintro r w' ⟨rfl,hw'⟩;rw [hw'];clear hw';obtain ⟨l_c,l_mf,l_ms,l_mn⟩:=HCw31.1.lt;obtain ⟨l_F,xF⟩:=Rh Rw31_F.1
      go_wp2_with fail
      clear l_c l_F xF l_mf l_ms l_mn;refine (Gz hK HCw31.1 fu.re fu.im 28).mono ?_;exact jee
     simp only [Bool.not_eq_true] at hsp;have HST:Hd ((if flook K.g fu.name≠k+1 then Al st1 fu.re fu.im 29 else if Am fu.name=true then Al st1 fu.re fu.im 28 else st1)=st1):=zh (by simp [hf0,hsp]);clear h0 b3 hf0;obtain ⟨l_c,xc_0,xc_1,xc_2,xc_3,xc_4,xc_5,xc_6,xc_7,xc_8,xc_9,xc_10,yc_0,yc_1,yc_2,yc_3,yc_4,yc_5,yc_6,yc_7,yc_8,yc_9,yc_10⟩:=Cp HCw21.1.row;obtain ⟨-,l_mf,l_ms,l_mn⟩:=HCw21.1.lt;obtain ⟨l_F,xF⟩:=Rh Rw21_F.1
     go_upto_region 10 with fail
     have hlk:=HCw21.1.flook' fu.name (v:=(fl:Int)) (by rw [HFL.1])
     go_cut [55] (fun s55 W=>s55= .bool false∧Ac [] w21 W)
     case first=>
      exact RV
     obtain ⟨rfl,hk⟩:=hcut;generalize wc=w31 at*
     have Rw31_F:=zh (hk.at Rw21_F.1 qg);have HCw31:=zh (HCw21.1.kp0 hk);have HSw31:=zh (HSw21.1.loc hk qg);clear hk Rw21_F HCw21 HSw21 l_c xc_0 xc_1 xc_2 xc_3 xc_4 xc_5 xc_6 xc_7 xc_8 xc_9 xc_10 yc_0 yc_1 yc_2 yc_3 yc_4 yc_5 yc_6 yc_7 yc_8 yc_9 yc_10 l_F xF l_mf l_ms l_mn;obtain ⟨l_c,l_mf,l_ms,l_mn⟩:=HCw31.1.lt;obtain ⟨l_F,xF⟩:=Rh Rw31_F.1
     go_wp2_with fail
     clear l_c l_F xF l_mf l_ms l_mn;refine (Dk fu.name _).mono ?_;rintro r w' ⟨rfl,hw'⟩;rw [hw'];clear hw';obtain ⟨l_c,l_mf,l_ms,l_mn⟩:=HCw31.1.lt;have l_F:=Ad Rw31_F.1
     go_wp2_with fail
     go_meet
     case rel=>exact ⟨by rw [HST.1];exact HCw31.1,HSw31.1,Rw31_F.1⟩
    have hf0:¬flook K.g fu.name=k+1:=fun h=>h0 (hfl.trans h)
    have b1:((fl:Int)==(k:Int)+1)=false:=by simp;omega
    have b2:((fl:Int) !=(k:Int)+1)=true:=by simp;omega
    have HST:Hd ((if flook K.g fu.name≠k+1 then Al st1 fu.re fu.im 29 else if Am fu.name=true then Al st1 fu.re fu.im 28 else st1)=Al st1 fu.re fu.im 29):=zh (by simp [hf0]);clear h0 hfl hf0;obtain ⟨l_c,xc_0,xc_1,xc_2,xc_3,xc_4,xc_5,xc_6,xc_7,xc_8,xc_9,xc_10,yc_0,yc_1,yc_2,yc_3,yc_4,yc_5,yc_6,yc_7,yc_8,yc_9,yc_10⟩:=Cp HCw21.1.row;obtain ⟨-,l_mf,l_ms,l_mn⟩:=HCw21.1.lt;obtain ⟨l_F,xF⟩:=Rh Rw21_F.1
    go_upto_region 10 with fail
    have hlk:=HCw21.1.flook' fu.name (v:=(fl:Int)) (by rw [HFL.1])
    go_cut [55] (fun s55 W=>s55= .bool true∧Ac [] w21 W)
    case first=>
     exact RV
    obtain ⟨rfl,hk⟩:=hcut;generalize wc=w31 at*
    have Rw31_F:=zh (hk.at Rw21_F.1 qg);have HCw31:=zh (HCw21.1.kp0 hk);have HSw31:=zh (HSw21.1.loc hk qg);clear hk Rw21_F HCw21 HSw21 l_c xc_0 xc_1 xc_2 xc_3 xc_4 xc_5 xc_6 xc_7 xc_8 xc_9 xc_10 yc_0 yc_1 yc_2 yc_3 yc_4 yc_5 yc_6 yc_7 yc_8 yc_9 yc_10 l_F xF l_mf l_ms l_mn;obtain ⟨l_c,l_mf,l_ms,l_mn⟩:=HCw31.1.lt;obtain ⟨l_F,xF⟩:=Rh Rw31_F.1
    go_wp2_with fail
    clear l_c l_F xF l_mf l_ms l_mn;refine (Gz hK HCw31.1 fu.re fu.im 29).mono ?_;exact jee
   obtain ⟨hc,hs,hF⟩:=hcut;generalize wc=wq at*
   generalize (if flook K.g fu.name≠k+1 then Al st1 fu.re fu.im 29 else if Am fu.name=true then Al st1 fu.re fu.im 28 else st1)=st2 at*
   have HCq:=zh hc;have HSq:=zh hs;have RFq:=zh hF;clear hc hs hF HCw21 HSw21 Rw21_F;obtain ⟨st3,hs3⟩:∃x,x=Dx K.g k fu [] fu.params st2:=⟨_,rfl⟩;rw [←hs3] at hh;have HS3:=zh hs3;clear hs3;obtain ⟨l_c,l_mf,l_ms,l_mn⟩:=HCq.1.lt;obtain ⟨l_F,xF⟩:=Rh RFq.1
   go_wp2_with fail
   clear l_c l_F xF l_mf l_ms l_mn
   go_loopg [81] (fu.params.length+1) (fun g j wr=>Aao K T ua uc k fu st3 wo (wp.heap.size) (.cells #[.string fu.name,.slice pa fu.params.length pc,.int .i64 fu.body.kind,.string fu.body.name,.float .f64 fmb,.slice nab fu.body.kids.length ncb,.complex .f64 fu.body.re fu.body.im,.complex .f64 fu.re fu.im] 61 (0,0)) g j wr)
   case atStart=>exact ⟨0,rfl,Nat.zero_le _,rfl,st2,HS3.1.symm,HCq.1,HSq.1,RFq.1⟩
   rename World=>ws
   obtain ⟨i,rfl,hi1,hi2,st4,hh3,hc,hs,hF⟩:=hrel
   by_cases hlt3:i<fu.params.length
   ·obtain ⟨g4,o4,hpa,hcs⟩:=CK.str hc HSPP.1 hlt3;subst hpa;have HCs:=zh hc;have HSs:=zh hs;have RFws:=zh hF;have lg4:g4<ws.heap.size:=Cd hcs;have hipc:i≤pc:=Nat.le_trans hi1 hcap;have hti:(fu.params.take i).length=i:=by rw [List.length_take,Nat.min_eq_left hi1]
    rw [List.drop_eq_getElem_cons hlt3,Dx] at hh3;have hta:fu.params.take (i+1)=fu.params.take i++ [fu.params[i]]:=List.take_succ_eq_append_getElem hlt3;generalize hsv:fu.params[i]=s at*
    clear hsv hc hs hF;obtain ⟨st5,hs5⟩:∃x,x=Jv fu s (fu.params.take i) st4:=⟨_,rfl⟩;rw [←hs5] at hh3;have HS5:=zh hs5;have HS6:=zh hta;clear hs5 hta
    cases gk with
    |zero=>omega
    | succ f2=>
     obtain ⟨l_c,l_mf,l_ms,l_mn⟩:=HCs.1.lt;obtain ⟨l_F,xF⟩:=Rh RFws.1
     go_wp2_with fail
     clear l_c l_F xF l_mf l_ms l_mn
     go_loopg [91] (i+1) (fun g j wr=>Aan K T ua uc fu s (fu.params.take i) st5 wo (wp.heap.size) (.cells #[.string fu.name,.slice (some ⟨g4,o4,none⟩) fu.params.length pc,.int .i64 fu.body.kind,.string fu.body.name,.float .f64 fmb,.slice nab fu.body.kids.length ncb,.complex .f64 fu.body.re fu.body.im,.complex .f64 fu.re fu.im] 61 (0,0)) g j wr)
     case atStart=>exact ⟨0,rfl,Nat.zero_le _,by rw [hti],st4,HS5.1.symm,HCs.1,HSs.1,RFws.1⟩
     obtain ⟨m,rfl,hm1,hm2,st6,hh4,hc,hs,hF⟩:=hrel;have HCr:=zh hc;have HSr:=zh hs;have RFwr:=zh hF;clear hc hs hF
     by_cases hlt4:m<(fu.params.take i).length
     ·have hmi:m<i:=by omega
      have hmp:m<fu.params.length:=by omega
      obtain ⟨g5,o5,hpa5,hcs5⟩:=CK.str HCr.1 HSPP.1 hmp;simp only [Option.some.injEq,Addr.mk.injEq,and_true] at hpa5;obtain ⟨rfl,rfl⟩:=hpa5;have lg5:=Cd hcs5;rw [List.drop_eq_getElem_cons hlt4,Jv] at hh4;rw [List.getElem_take] at hh4;generalize fu.params[m]=t at*
      cases gk with
      |zero=>omega
      | succ f3=>
       by_cases heq:same t s=true
       ·rw [if_pos heq] at hh4;have heb:(t.toList==s.toList)=true:=by rw [Ct];exact heq
        clear heq;obtain ⟨l_c,l_mf,l_ms,l_mn⟩:=HCr.1.lt;obtain ⟨l_F,xF⟩:=Rh RFwr.1
        go_wp2_with fail
        clear l_c l_F xF l_mf l_ms l_mn;refine (Gz hK HCr.1 fu.re fu.im 29).mono ?_;rintro r e61 ⟨rfl,hc,hs⟩;have off2_F:=hs.off (Ad RFwr.1) off_F;have Re61_F:=zh (hs.at RFwr.1 off_F);have off_F':=off2_F;have HCe61:=zh hc;have HSe61:=zh (HSr.1.trans hs);clear RFwr off_F HCr HSr hc hs;have off_F:=off_F';clear off_F' off2_F;obtain ⟨l_c,l_mf,l_ms,l_mn⟩:=HCe61.1.lt;have l_F:=Ad Re61_F.1
        go_wp2_with fail
        go_roundg f3
        case measure=>omega
        exact ⟨m+1,by first|rfl|(simp;done)|(simp;omega),by omega,by omega,_,hh4,HCe61.1,HSe61.1,Re61_F.1⟩
       rw [if_neg heq] at hh4;simp only [Bool.not_eq_true] at heq;have heb:(t.toList==s.toList)=false:=by rw [Ct];exact heq
       clear heq;obtain ⟨l_c,l_mf,l_ms,l_mn⟩:=HCr.1.lt;have l_F:=Ad RFwr.1
       go_wp2_with fail
       go_roundg f3
       case measure=>omega
       exact ⟨m+1,by first|rfl|(simp;done)|(simp;omega),by omega,by omega,_,hh4,HCr.1,HSr.1,RFwr.1⟩
     have hme:m=(fu.params.take i).length:=by omega
     rw [hme,List.drop_length,Jv] at hh4;obtain rfl:st6=st5:=hh4;obtain ⟨fl,hfl⟩:∃x,x=flook K.g s:=⟨_,rfl⟩;have HFL:=zh hfl;rw [←hfl] at hh3;clear hfl hme
     cases hsp:Am s with
     |true=>
      have HS7:=zh (show Dx K.g k fu (fu.params.take i++ [s]) (fu.params.drop (i+1)) (Df (Al st6 fu.re fu.im 28) (k+1,s))=st3 by rw [hsp] at hh3;simpa using hh3);clear hh3;obtain ⟨l_c,l_mf,l_ms,l_mn⟩:=HCr.1.lt;have l_F:=Ad RFwr.1
      go_wp2_with fail
      clear l_c l_F l_mf l_ms l_mn;refine (Dk s _).mono ?_;rintro r w' ⟨rfl,hw'⟩;rw [hw'];clear hw';obtain ⟨l_c,l_mf,l_ms,l_mn⟩:=HCr.1.lt;obtain ⟨l_F,xF⟩:=Rh RFwr.1
      go_wp2_with fail
      clear l_c l_F xF l_mf l_ms l_mn;exact jud
     | false=>
      by_cases h0:0<fl
      ·have HS7:=zh (show Dx K.g k fu (fu.params.take i++ [s]) (fu.params.drop (i+1)) (Df (Al st6 fu.re fu.im 28) (k+1,s))=st3 by rw [hsp] at hh3;simpa [h0] using hh3);have d0:(0:Int)<(fl:Int):=by omega
       have d1:decide (0<fl)=true:=by simp [h0]
       clear hh3;obtain ⟨l_c,l_mf,l_ms,l_mn⟩:=HCr.1.lt;have l_F:=Ad RFwr.1
       go_wp2_with fail
       clear l_c l_F l_mf l_ms l_mn;refine (Dk s _).mono ?_;rintro r w' ⟨rfl,hw'⟩;rw [hw'];clear hw';obtain ⟨l_c,xc_0,xc_1,xc_2,xc_3,xc_4,xc_5,xc_6,xc_7,xc_8,xc_9,xc_10,yc_0,yc_1,yc_2,yc_3,yc_4,yc_5,yc_6,yc_7,yc_8,yc_9,yc_10⟩:=Cp HCr.1.row;obtain ⟨-,l_mf,l_ms,l_mn⟩:=HCr.1.lt;obtain ⟨l_F,xF⟩:=Rh RFwr.1;have hlk:=HCr.1.flook s (v:=(fl:Int)) (by rw [HFL.1])
       go_wp2_with fail
       clear l_c xc_0 xc_1 xc_2 xc_3 xc_4 xc_5 xc_6 xc_7 xc_8 xc_9 xc_10 yc_0 yc_1 yc_2 yc_3 yc_4 yc_5 yc_6 yc_7 yc_8 yc_9 yc_10 l_F xF l_mf l_ms l_mn;exact jud
      have hz:fl=0:=by omega
      have HS7:=zh (show Dx K.g k fu (fu.params.take i++ [s]) (fu.params.drop (i+1)) (Df st6 (k+1,s))=st3 by rw [hsp] at hh3;simpa [hz] using hh3);have d1:decide (0<fl)=false:=by simp [hz]
      clear hh3 hz;obtain ⟨l_c,l_mf,l_ms,l_mn⟩:=HCr.1.lt;have l_F:=Ad RFwr.1
      go_wp2_with fail
      clear l_c l_F l_mf l_ms l_mn;refine (Dk s _).mono ?_;rintro r w' ⟨rfl,hw'⟩;rw [hw'];clear hw';obtain ⟨l_c,xc_0,xc_1,xc_2,xc_3,xc_4,xc_5,xc_6,xc_7,xc_8,xc_9,xc_10,yc_0,yc_1,yc_2,yc_3,yc_4,yc_5,yc_6,yc_7,yc_8,yc_9,yc_10⟩:=Cp HCr.1.row;obtain ⟨-,l_mf,l_ms,l_mn⟩:=HCr.1.lt;have l_F:=Ad RFwr.1;have hlk:=HCr.1.flook s (v:=(fl:Int)) (by rw [HFL.1]);obtain ⟨es,ek,hes,hes2⟩:=HCr.1.seen;have HEB:=zh hes;have HES:=zh hes2;clear hes hes2;have hup:(Instr.mapUpdate 67 (.map (some K.mn)) (.agg #[.int .i64 ((k:Int)+1),.string s]) (.agg #[])).run Tryz.prog wr= .ok () (mset wr K.mn (.map (Cm Cn (Cw ((k+1,s):Ae) (.agg #[]) ek es).1) (Cw ((k+1,s):Ae) (.agg #[]) ek es).2)):=Uq (K:=K) (W:=wr) HEB.1 (k+1) s
      go_wp2_with fail
      go_roundg f2
      case measure=>omega
      refine Ch (fun W=>Ac [K.mn] wr W∧W.heap[K.mn]? =some (.map (Cm Cn (Cw ((k+1,s):Ae) (.agg #[]) ek es).1) (Cw ((k+1,s):Ae) (.agg #[]) ek es).2)) ⟨jg,(zc HEB.1 l_mn)⟩ ?_;rintro w61 ⟨Kw61,cw61_mn⟩;have Rw61_F:=zh (Kw61.at RFwr.1 (by simp [n_F_mn]));have HCw61:Hd (CK K T ua uc (Df (st6) (k+1,s)) w61):=zh (HCr.1.see hK (k+1,s) HES.1 Kw61 cw61_mn);have HSw61:=zh (HSr.1.mn Kw61);have Rw61_mn:=zh cw61_mn;clear Kw61 cw61_mn l_c xc_0 xc_1 xc_2 xc_3 xc_4 xc_5 xc_6 xc_7 xc_8 xc_9 xc_10 yc_0 yc_1 yc_2 yc_3 yc_4 yc_5 yc_6 yc_7 yc_8 yc_9 yc_10 l_F l_mf l_ms l_mn RFwr HCr HSr;exact ⟨i+1,by first|rfl|(simp;done)|(simp;omega),by omega,by omega,_,by rw [HS6.1];exact HS7.1,HCw61.1,HSw61.1,Rw61_F.1⟩
   have hie:i=fu.params.length:=by omega
   rw [hie,List.drop_length,Dx] at hh3;obtain rfl:st4=st3:=hh3
   rename World=>wr
   have HCr:=zh hc;have HSr:=zh hs;have RFwr:=zh hF;clear hc hs hF hie;obtain ⟨l_c,l_mf,l_ms,l_mn⟩:=HCr.1.lt;have l_F:=Ad RFwr.1
   go_wp2_with fail
   go_roundg f
   case measure=>omega
   exact ⟨k+1,by first|rfl|(simp;done)|(simp;omega),by omega,by omega,_,hh,HCr.1,HSr.1⟩
 have hke:k=K.g.funcs.length:=by omega
 rw [hke,List.drop_length,Er] at hh;obtain rfl:st1=st':=hh
 rename World=>wr
 have HCr:=zh hc;have HSr:=zh hs;clear hc hs hke;obtain ⟨l_c,l_mf,l_ms,l_mn⟩:=HCr.1.lt
 go_wp2_with fail
 refine Cq (v:= .tuple #[]) (fun W=>Ac [] wr W) jg (fun w21 hW=> ?_) rfl (fun w21 hW=> ?_)
 ·have Kw21:Ac [] wr w21:=hW;exact Le
 have Kw21:Ac [] wr w21:=hW;have HCw21:=zh (HCr.1.kp0 Kw21);have HSw21:=zh (HSr.1.loc Kw21 qg);clear Kw21 l_c l_mf l_ms l_mn HCr HSr;exact ⟨_,_,_,rfl,HCw21.1⟩
theorem IS{st st1:NS}(h:AQ st=some st1):(st.e≠0∧st1=st)∨(st.e=0∧∃k,Mb st=some k∧Gt k st.uses st=some st1):=by
 unfold AQ at h;exact qqe
theorem Rk{k:Cs}:∀{l:List Kf} {st st1:NS},Gt k l st=some st1→st1.uses=st.uses∧st1.seen=st.seen
 | [],st,st1,h=>by simp only [Gt,Option.some.injEq] at h;rw [h];exact ⟨rfl,rfl⟩
 | u::l,st,st1,h=>by
   unfold Gt at h;simp only [Option.bind_eq_bind,Option.bind_eq_some_iff] at h;obtain ⟨b,_,h⟩:=h;have:=Rk h
   cases b with
   |true=>
    rw [if_pos rfl] at this;unfold Al at this
    split at this<;>exact this
   |false=>rw [if_neg qg] at this;exact this
theorem Aaw{K:Ba}(hK:Dp K){T:Nat→Prop}{ua:Option Addr}{uc:Nat}{st:NS}{w:World}(h:CK K T ua uc st w)(name:ByteArray):
  Calls Tryz.prog 75 #[.pointer (some ⟨K.c,0,none⟩),.string name] w fun r w'=>∃T' ua' uc',r= .returned (.agg #[.int .i64 (Iv K.g st name).1.1,.string (Iv K.g st name).1.2])∧CK K T' ua' uc' (Iv K.g st name).2 w'∧Ak K T T' w w':=
 (FV hK h name).mono fun _ _ ⟨h1,h2,h3⟩=>⟨_,_,_,h1,h2,h3⟩
theorem ME{K:Ba}(hK:Dp K){T:Nat→Prop}{ua:Option Addr}{uc:Nat}{st:NS}{w:World}(h:CK K T ua uc st w)(kd:Int)(tx:ByteArray)(fm:Nat)(na:Option Addr)(nc re im:Nat)(kids:List Af){c1 c2:Nat}(hcn:Bz tx=(c1,c2))(hn:¬kids.length<c1)(hm:¬c2<kids.length)(hkd:Bc K.w0 (fun _=>True) kids (.slice na kids.length nc))(htx:tx=⟨#[108,101,110,103,116,104]⟩)(hlt:0<kids.length)(h1:kids.length=1)(h4:(kids[0]'hlt).kind=4):Calls Tryz.prog 77 #[.pointer (some ⟨K.c,0,none⟩),.agg #[.int .i64 kd,.string tx,.float .f64 fm,.slice na kids.length nc,.complex .f64 re im]] w fun r w'=>∃T' ua' uc',r= .returned (.tuple #[])∧CK K T' ua' uc' ((Iv K.g (Bi K.g st (kids[0]'hlt)) (kids[0]'hlt).name).2) w'∧Ak K T T' w w':=by
 subst htx;have d1:¬((kids.length:Int)<(c1:Int)):=by omega
 have d2:decide (kids.length<c1)=false:=by simp;omega
 have d3:¬((c2:Int)<(kids.length:Int)):=by omega
 have d4:decide (c2<kids.length)=false:=by simp;omega
 have HKD:=zh hkd;clear hkd hn hm;have d5:((kids.length:Int)==1)=true:=by simp [h1]
 have d6:(0:Int)<(kids.length:Int):=by omega
 have q4:(kids[0].kind==4)=true:=by simp [h4]
 clear h1 h4;have HC0:=zh h;have HS0:=zh (Ak.refl K T w);clear h
 go_enter Tryz.func77,Tryz.ntmps77
 obtain ⟨l_c,l_mf,l_ms,l_mn⟩:=HC0.1.lt
 go_wp2_with fail
 refine An (fun W=>Ac [] w W∧W.heap[w.heap.size]? =some (.cells #[.int .i64 kd,.string ⟨#[108,101,110,103,116,104]⟩,.float .f64 fm,.slice na kids.length nc,.complex .f64 re im] 50 (0,0))) ⟨jg,jb⟩ ?_;rintro w1 ⟨Kw1,cw1_B⟩;have ⟨n_c_B,n_B_c⟩:=Ai l_c;have ⟨n_mf_B,n_B_mf⟩:=Ai l_mf;have ⟨n_ms_B,n_B_ms⟩:=Ai l_ms;have ⟨n_mn_B,n_B_mn⟩:=Ai l_mn;have o_B:w.heap.size≤w.heap.size:=Nat.le_refl _;have off_B:Fu K T (w.heap.size):=Ao HC0.1 (Nat.le_refl _);have o0_B:K.w0.heap.size≤w.heap.size:=Nat.le_trans HC0.1.keep.size (Nat.le_refl _);have HCw1:=zh (HC0.1.kp0 Kw1);have HSw1:=zh (HS0.1.loc Kw1 qg);have Rw1_B:=zh cw1_B;clear Kw1 cw1_B l_c l_mf l_ms l_mn HC0 HS0;refine (Sz hcn _).mono ?_;rintro r w' ⟨rfl,hw'⟩;rw [hw'];clear hw';obtain ⟨l_c,l_mf,l_ms,l_mn⟩:=HCw1.1.lt;obtain ⟨l_B,xB⟩:=Bv Rw1_B.1
 go_upto_block 0 with fail
 clear l_c l_B xB l_mf l_ms l_mn;obtain ⟨g3,o3,fm3,na3,nc3,hna3,kc30,kc31,kc32,kc33,kc34,hkn3⟩:=CK.kid HCw1.1 HKD.1 hlt;subst hna3;have lg3:=Cd kc30;simp only [Nat.zero_mul,Nat.add_zero] at kc30 kc31 kc32 kc33 kc34;obtain ⟨l_c,l_mf,l_ms,l_mn⟩:=HCw1.1.lt;obtain ⟨l_B,xB⟩:=Bv Rw1_B.1
 go_wp2_with fail
 clear l_c l_B xB l_mf l_ms l_mn;refine (Od hK HCw1.1 hkn3).mono ?_;rintro r e21 ⟨T21,ua21,uc21,rfl,hc,hs⟩;have off2_B:=hs.off (Ad Rw1_B.1) off_B;have Re21_B:=zh (hs.at Rw1_B.1 off_B);have off_B':=off2_B;have HCe21:=zh hc;have HSe21:=zh (HSw1.1.trans hs);clear Rw1_B off_B HCw1 HSw1 hc hs;have off_B:=off_B';clear off_B' off2_B;obtain ⟨l_c,l_mf,l_ms,l_mn⟩:=HCe21.1.lt;obtain ⟨l_B,xB⟩:=Bv Re21_B.1;clear kc30 kc31 kc32 kc33 kc34 lg3;have HK2:=zh (CK.kid HCe21.1 HKD.1 hlt);obtain ⟨g4,o4,fm4,na4,nc4,hna4,kc40,kc41,kc42,kc43,kc44,hkn4⟩:=HK2.1;have lg4:=Cd kc40;injection hna4 with e1
 injection e1 with e2 e3 e4
 subst e2;subst e3;clear e4;simp only [Nat.zero_mul,Nat.add_zero] at kc41
 go_wp2_with fail
 clear l_c l_B xB l_mf l_ms l_mn;refine (Aaw hK HCe21.1 kids[0].name).mono ?_;rintro r e22 ⟨T22,ua22,uc22,rfl,hc,hs⟩;have off2_B:=hs.off (Ad Re21_B.1) off_B;have Re22_B:=zh (hs.at Re21_B.1 off_B);have off_B':=off2_B;have HCe22:=zh hc;have HSe22:=zh (HSe21.1.trans hs);clear Re21_B off_B HCe21 HSe21 hc hs;have off_B:=off_B';clear off_B' off2_B;obtain ⟨l_c,l_mf,l_ms,l_mn⟩:=HCe22.1.lt;have l_B:=Ad Re22_B.1
 go_wp2_with fail
 refine Ap (v:= .tuple #[]) (fun W=>Ac [] e22 W) jg (fun w23 hW=> ?_) rfl (fun w23 hW=> ?_)
 ·have Kw23:Ac [] e22 w23:=hW;exact Le
 have Kw23:Ac [] e22 w23:=hW;have Rw23_B:=zh (Kw23.at Re22_B.1 qg);have HCw23:=zh (HCe22.1.kp0 Kw23);have HSw23:=zh (HSe22.1.loc Kw23 qg);clear Kw23 l_c l_B l_mf l_ms l_mn Re22_B HCe22 HSe22;exact ⟨_,_,_,rfl,HCw23.1,HSw23.1⟩
theorem TQ{K:Ba}(hK:Dp K){T:Nat→Prop}{ua:Option Addr}{uc:Nat}{st:NS}{w:World}(h:CK K T ua uc st w)(kd:Int)(tx:ByteArray)(fm:Nat)(na:Option Addr)(nc re im:Nat)(kids:List Af){rec:Cu}{st':NS}(hkk:kd=32∨kd=33)(hl0:0≤st.loops)(hl1:st.loops≤900000)(hkl:kids.length≤1000000)(hkd:Bc K.w0 (fun _=>True) kids (.slice na kids.length nc))(hrec:Ku K rec)(hcf:Ga rec false 0 kids {st with loops:=st.loops+1}=some st')(hl2:0≤st'.loops)(hl3:st'.loops≤900001):Calls Tryz.prog 43 #[.pointer (some ⟨K.c,0,none⟩),.agg #[.int .i64 kd,.string tx,.float .f64 fm,.slice na kids.length nc,.complex .f64 re im]] w fun r w'=>∃T' ua' uc',r= .returned (.tuple #[])∧CK K T' ua' uc' ({st' with loops:=st'.loops -1}) w'∧Ak K T T' w w':=by
 have hlob: -1000000≤st.loops+1∧st.loops+1≤1000000:=by omega
 have hb:(kd==32)=true∨((kd==32)=false∧(kd==33)=true):=by rcases hkk with rfl|rfl<;>simp
 have e4:(kd==4)=false:=beq_false_of_ne jh;have e5:(kd==5)=false:=beq_false_of_ne jh;have e11:(kd==11)=false:=beq_false_of_ne jh;have e41:(kd==41)=false:=beq_false_of_ne jh;have e35:(kd==35)=false:=beq_false_of_ne jh;have e19:(kd==19)=false:=beq_false_of_ne jh;have e20:(kd==20)=false:=beq_false_of_ne jh;have e38:(kd==38)=false:=beq_false_of_ne jh;have e40:(kd==40)=false:=beq_false_of_ne jh;have e36:(kd==36)=false:=beq_false_of_ne jh;have e37:(kd==37)=false:=beq_false_of_ne jh;have e34:(kd==34)=false:=beq_false_of_ne jh;have HKD:=zh hkd;have HREC:=zh hrec;have HCF:=zh hcf;clear hkd hkk hrec hcf;have HC0:=zh h;have HS0:=zh (Ak.refl K T w);clear h
 rcases hb with e32|⟨e32,e33⟩
 all_goals
  go_enter_defers Tryz.func43,Tryz.ntmps43
  obtain ⟨l_c,xc⟩:=Cp HC0.1.row;obtain ⟨-,l_mf,l_ms,l_mn⟩:=HC0.1.lt
  go_wp2_with fail
  refine jad ?_;rintro w1 ⟨Kw1,cw1_c,cw1_B⟩;have ⟨n_c_B,n_B_c⟩:=Ai l_c;have ⟨n_mf_B,n_B_mf⟩:=Ai l_mf;have ⟨n_ms_B,n_B_ms⟩:=Ai l_ms;have ⟨n_mn_B,n_B_mn⟩:=Ai l_mn;have o_B:w.heap.size≤w.heap.size:=Nat.le_refl _;have off_B:Fu K T (w.heap.size):=Ao HC0.1 (Nat.le_refl _);have o0_B:K.w0.heap.size≤w.heap.size:=Nat.le_trans HC0.1.keep.size (Nat.le_refl _);have HCw1:Hd (CK K T ua uc ({st with loops:=st.loops+1}) w1):=zh (HC0.1.upd hK Kw1 cw1_c qg qg qg qg qg rfl rfl rfl HC0.1.fn hlob);have HSw1:=zh (HS0.1.loc Kw1 XJ);have Rw1_B:=zh cw1_B;clear Kw1 cw1_c cw1_B l_c xc l_mf l_ms l_mn HC0 HS0
  go_loopg [144] (kids.length+1) (fun g j wr=>RL K rec false kids st' T w (w.heap.size) (.cells #[.int .i64 kd,.string tx,.float .f64 fm,.slice na kids.length nc,.complex .f64 re im] 50 (0,0)) g j wr)
  case atStart=>exact qad
  exact jae
theorem TP{K:Ba}(hK:Dp K){T:Nat→Prop}{ua:Option Addr}{uc:Nat}{st:NS}{w:World}(h:CK K T ua uc st w)(kd:Int)(tx:ByteArray)(fm:Nat)(na:Option Addr)(nc re im:Nat)(kids:List Af){rec:Cu}{st':NS}(hkk:kd=34)(hl0:0≤st.loops)(hl1:st.loops≤900000)(hkl:kids.length≤1000000)(hkd:Bc K.w0 (fun _=>True) kids (.slice na kids.length nc))(hrec:Ku K rec)(hcf:Ga rec true 0 kids {st with loops:=st.loops+1}=some st')(hl2:0≤st'.loops)(hl3:st'.loops≤900001):Calls Tryz.prog 43 #[.pointer (some ⟨K.c,0,none⟩),.agg #[.int .i64 kd,.string tx,.float .f64 fm,.slice na kids.length nc,.complex .f64 re im]] w fun r w'=>∃T' ua' uc',r= .returned (.tuple #[])∧CK K T' ua' uc' ({st' with loops:=st'.loops -1}) w'∧Ak K T T' w w':=by
 have hlob: -1000000≤st.loops+1∧st.loops+1≤1000000:=by omega
 have e34:(kd==34)=true:=by simp [hkk]
 have e4:(kd==4)=false:=beq_false_of_ne jh;have e5:(kd==5)=false:=beq_false_of_ne jh;have e11:(kd==11)=false:=beq_false_of_ne jh;have e41:(kd==41)=false:=beq_false_of_ne jh;have e35:(kd==35)=false:=beq_false_of_ne jh;have e19:(kd==19)=false:=beq_false_of_ne jh;have e20:(kd==20)=false:=beq_false_of_ne jh;have e38:(kd==38)=false:=beq_false_of_ne jh;have e40:(kd==40)=false:=beq_false_of_ne jh;have e36:(kd==36)=false:=beq_false_of_ne jh;have e37:(kd==37)=false:=beq_false_of_ne jh;have e32:(kd==32)=false:=beq_false_of_ne jh;have e33:(kd==33)=false:=beq_false_of_ne jh;have HKD:=zh hkd;have HREC:=zh hrec;have HCF:=zh hcf;clear hkd hkk hrec hcf;have HC0:=zh h;have HS0:=zh (Ak.refl K T w);clear h
 go_enter_defers Tryz.func43,Tryz.ntmps43
 obtain ⟨l_c,xc⟩:=Cp HC0.1.row;obtain ⟨-,l_mf,l_ms,l_mn⟩:=HC0.1.lt
 go_wp2_with fail
 refine jad ?_;rintro w1 ⟨Kw1,cw1_c,cw1_B⟩;have ⟨n_c_B,n_B_c⟩:=Ai l_c;have ⟨n_mf_B,n_B_mf⟩:=Ai l_mf;have ⟨n_ms_B,n_B_ms⟩:=Ai l_ms;have ⟨n_mn_B,n_B_mn⟩:=Ai l_mn;have o_B:w.heap.size≤w.heap.size:=Nat.le_refl _;have off_B:Fu K T (w.heap.size):=Ao HC0.1 (Nat.le_refl _);have o0_B:K.w0.heap.size≤w.heap.size:=Nat.le_trans HC0.1.keep.size (Nat.le_refl _);have HCw1:Hd (CK K T ua uc ({st with loops:=st.loops+1}) w1):=zh (HC0.1.upd hK Kw1 cw1_c qg qg qg qg qg rfl rfl rfl HC0.1.fn hlob);have HSw1:=zh (HS0.1.loc Kw1 XJ);have Rw1_B:=zh cw1_B;clear Kw1 cw1_c cw1_B l_c xc l_mf l_ms l_mn HC0 HS0
 go_loopg [144] (kids.length+1) (fun g j wr=>RL K rec true kids st' T w (w.heap.size) (.cells #[.int .i64 kd,.string tx,.float .f64 fm,.slice na kids.length nc,.complex .f64 re im] 50 (0,0)) g j wr)
 case atStart=>exact qad
 obtain ⟨k,rfl,hk1,hk2,st2,T2,ua2,uc2,hcf,hc,hs,hB,off_B⟩:=hrel;have HCr:=zh hc;have HSr:=zh hs;have RB:=zh hB;clear hc hs hB
 by_cases hlt:k<kids.length
 ·obtain ⟨g3,o3,fm3,na3,nc3,hna,kc0,kc1,kc2,kc3,kc4,hkn⟩:=CK.kid HCr.1 HKD.1 hlt;subst hna;have lg3:g3<wr.heap.size:=Cd kc0;rw [List.drop_eq_getElem_cons hlt,Ga] at hcf;generalize kids[k]=kk at*
  simp only [Option.bind_eq_bind,Option.bind_eq_some_iff] at hcf;obtain ⟨s3,hr,hcf⟩:=hcf
  cases gk with
  |zero=>omega
  | succ f=>
   by_cases hx:true=true∧k%2=0∧(kk.kind=36∨kk.kind=37)
   ·rw [Qv,if_pos hx] at hr;have d2:(k:Int)%2=0:=by omega
    rcases hx.2.2 with hk|hk
    ·rw [hk] at kc0 hkn;clear hk hx;obtain ⟨l_c,l_mf,l_ms,l_mn⟩:=HCr.1.lt;obtain ⟨l_B,xB⟩:=Bv RB.1
     go_wp2_with fail
     refine An (fun W=>Ac [] wr W∧W.heap[wr.heap.size]? =some (.cells #[.int .i64 36,.string kk.name,.float .f64 fm3,.slice na3 kk.kids.length nc3,.complex .f64 kk.re kk.im] 50 (0,0))) ⟨jg,jb⟩ ?_;exact jrd
    rw [hk] at kc0 hkn;clear hk hx;obtain ⟨l_c,l_mf,l_ms,l_mn⟩:=HCr.1.lt;obtain ⟨l_B,xB⟩:=Bv RB.1
    go_wp2_with fail
    refine An (fun W=>Ac [] wr W∧W.heap[wr.heap.size]? =some (.cells #[.int .i64 37,.string kk.name,.float .f64 fm3,.slice na3 kk.kids.length nc3,.complex .f64 kk.re kk.im] 50 (0,0))) ⟨jg,jb⟩ ?_;exact jrd
   rw [Qv,if_neg hx] at hr
   have dk:(¬(k:Int)%2=0)∨((k:Int)%2=0∧(kk.kind==36)=false∧(kk.kind==37)=false∧¬kk.kind=36∧¬kk.kind=37):=by
    by_cases h2:k%2=0
    ·have h36:¬kk.kind=36:=fun h=>hx ⟨rfl,h2,.inl h⟩
     have h37:¬kk.kind=37:=fun h=>hx ⟨rfl,h2,.inr h⟩
     exact .inr ⟨by omega,beq_false_of_ne h36,beq_false_of_ne h37,h36,h37⟩
    exact .inl jh
   clear hx
   rcases dk with dk|⟨dk,dk1,dk2,dk3,dk4⟩
   all_goals
    obtain ⟨l_c,l_mf,l_ms,l_mn⟩:=HCr.1.lt;obtain ⟨l_B,xB⟩:=Bv RB.1
    go_wp2_with fail
    refine YG ?_;rintro w51 ⟨Kw51,cw51_Kd⟩;have ⟨n_c_Kd,n_Kd_c⟩:=Ai l_c;have ⟨n_mf_Kd,n_Kd_mf⟩:=Ai l_mf;have ⟨n_ms_Kd,n_Kd_ms⟩:=Ai l_ms;have ⟨n_mn_Kd,n_Kd_mn⟩:=Ai l_mn;have ⟨n_B_Kd,n_Kd_B⟩:=Ai l_B;have o_Kd:w.heap.size≤wr.heap.size:=HSr.1.size;have off_Kd:Fu K T2 (wr.heap.size):=Ao HCr.1 (Nat.le_refl _);have o0_Kd:K.w0.heap.size≤wr.heap.size:=Nat.le_trans HCr.1.keep.size (Nat.le_refl _);have Rw51_B:=zh (Kw51.at RB.1 qg);have HCw51:=zh (HCr.1.kp0 Kw51);have HSw51:=zh (HSr.1.loc Kw51 qg);have Rw51_Kd:=zh cw51_Kd;clear Kw51 cw51_Kd l_c l_B xB l_mf l_ms l_mn RB HCr HSr;refine jrc ?_;rintro r e52 ⟨T52,ua52,uc52,rfl,hc,hs⟩;have off2_B:=hs.off (Ad Rw51_B.1) off_B;have Re52_B:=zh (hs.at Rw51_B.1 off_B);have off2_Kd:=hs.off (Ad Rw51_Kd.1) off_Kd;have Re52_Kd:=zh (hs.at Rw51_Kd.1 off_Kd);have off_B':=off2_B;have off_Kd':=off2_Kd;have HCe52:=zh hc;have HSe52:=zh (HSw51.1.trans hs);clear Rw51_B off_B Rw51_Kd off_Kd HCw51 HSw51 hc hs;have off_B:=off_B';clear off_B' off2_B;have off_Kd:=off_Kd';clear off_Kd' off2_Kd;obtain ⟨l_c,l_mf,l_ms,l_mn⟩:=HCe52.1.lt;have l_B:=Ad Re52_B.1;have l_Kd:=Ad Re52_Kd.1
    go_wp2_with fail
    go_roundg f
    case measure=>omega
    exact zbd
 have hke:k=kids.length:=by omega
 exact jsd
theorem TR{K:Ba}(hK:Dp K){T:Nat→Prop}{ua:Option Addr}{uc:Nat}{st:NS}{w:World}(h:CK K T ua uc st w)(kd:Int)(tx:ByteArray)(fm:Nat)(na:Option Addr)(nc re im:Nat)(kids:List Af){rec:Cu}{st1 st':NS}(h4:kd=4)(h19:kd≠19)(h20:kd≠20)(h11:kd≠11)(h41:kd≠41)(h32:kd≠32)(h33:kd≠33)(h34:kd≠34)(h35:kd≠35)(hkl:kids.length≤1000000)(hkd:Bc K.w0 (fun _=>True) kids (.slice na kids.length nc))(hrec:Ku K rec)(hpre:Uj K.g st (.mk kd tx fm kids re im)=some st1)(hcf:Lj rec kids st1=some st'):Calls Tryz.prog 43 #[.pointer (some ⟨K.c,0,none⟩),.agg #[.int .i64 kd,.string tx,.float .f64 fm,.slice na kids.length nc,.complex .f64 re im]] w fun r w'=>∃T' ua' uc',r= .returned (.tuple #[])∧CK K T' ua' uc' (st') w'∧Ak K T T' w w':=by
 have e19:(kd==19)=false:=beq_false_of_ne h19;have f19:(kd !=19)=true:=by simp [h19]
 have e20:(kd==20)=false:=beq_false_of_ne h20;have f20:(kd !=20)=true:=by simp [h20]
 have e11:(kd==11)=false:=beq_false_of_ne h11;have f11:(kd !=11)=true:=by simp [h11]
 have e41:(kd==41)=false:=beq_false_of_ne h41;have f41:(kd !=41)=true:=by simp [h41]
 have e32:(kd==32)=false:=beq_false_of_ne h32;have f32:(kd !=32)=true:=by simp [h32]
 have e33:(kd==33)=false:=beq_false_of_ne h33;have f33:(kd !=33)=true:=by simp [h33]
 have e34:(kd==34)=false:=beq_false_of_ne h34;have f34:(kd !=34)=true:=by simp [h34]
 have e35:(kd==35)=false:=beq_false_of_ne h35;have f35:(kd !=35)=true:=by simp [h35]
 have HKD:=zh hkd;have HREC:=zh hrec;have HCF:=zh hcf;have HNR:Hd (Au K.w0 (fun _=>True) (.mk kd tx fm kids re im) (.agg #[.int .i64 kd,.string tx,.float .f64 fm,.slice na kids.length nc,.complex .f64 re im])):=zh (.mk hkd);clear hkd hrec hcf h19 h20 h11 h41 h32 h33 h34 h35;have HC0:=zh h;have HS0:=zh (Ak.refl K T w);clear h;have H4:=zh h4;clear h4
 go_enter Tryz.func43,Tryz.ntmps43
 obtain ⟨l_c,l_mf,l_ms,l_mn⟩:=HC0.1.lt
 go_upto_block 0 with fail
 refine XF ?_;rintro w1 ⟨Kw1,cw1_B⟩;have ⟨n_c_B,n_B_c⟩:=Ai l_c;have ⟨n_mf_B,n_B_mf⟩:=Ai l_mf;have ⟨n_ms_B,n_B_ms⟩:=Ai l_ms;have ⟨n_mn_B,n_B_mn⟩:=Ai l_mn;have o_B:w.heap.size≤w.heap.size:=Nat.le_refl _;have off_B:Fu K T (w.heap.size):=Ao HC0.1 (Nat.le_refl _);have o0_B:K.w0.heap.size≤w.heap.size:=Nat.le_trans HC0.1.keep.size (Nat.le_refl _);have HCw1:=zh (HC0.1.kp0 Kw1);have HSw1:=zh (HS0.1.loc Kw1 qg);have Rw1_B:=zh cw1_B;clear Kw1 cw1_B l_c l_mf l_ms l_mn HC0 HS0
 go_cut [] (fun W=>∃T' ua' uc',CK K T' ua' uc' st1 W∧Ak K T T' w W∧W.heap[w.heap.size]? =some (.cells #[.int .i64 kd,.string tx,.float .f64 fm,.slice na kids.length nc,.complex .f64 re im] 50 (0,0))∧Fu K T' (w.heap.size))
 case first=>
  clear HKD HREC HCF;have h4:=H4.1;subst h4;rw [Km,if_pos rfl] at hpre;obtain ⟨l_c,l_mf,l_ms,l_mn⟩:=HCw1.1.lt;obtain ⟨l_B,xB⟩:=Bv Rw1_B.1
  go_wp2_with fail
  clear l_c l_B xB l_mf l_ms l_mn;refine zcd ?_;rintro r e21 ⟨T21,ua21,uc21,rfl,hc,hs⟩;have off2_B:=hs.off (Ad Rw1_B.1) off_B;have Re21_B:=zh (hs.at Rw1_B.1 off_B);have off_B':=off2_B;have HCe21:=zh hc;have HSe21:=zh (HSw1.1.trans hs);clear Rw1_B off_B HCw1 HSw1 hc hs;have off_B:=off_B';clear off_B' off2_B;obtain ⟨l_c,xc⟩:=Cp HCe21.1.row;obtain ⟨-,l_mf,l_ms,l_mn⟩:=HCe21.1.lt;obtain ⟨l_B,xB⟩:=Bv Re21_B.1;obtain ⟨oo,hoo⟩:∃x,x=Iv K.g (Bi K.g st (Af.mk 4 tx fm kids re im)) tx:=⟨_,rfl⟩;rw [←hoo] at hpre;obtain ⟨hul,rfl⟩:=Jh hpre;have HUL:=zh hul;have HOO:=zh hoo;clear hul hoo hpre
  go_upto_region 4 with fail
  obtain ⟨i1,hi1,hi2,hi3,hi4⟩:=Oi;have HI:=zh (And.intro hi1 (And.intro hi2 (And.intro hi3 hi4)));clear hi1 hi2 hi3 hi4;have HOF:=zh (IQ hK HCe21.1 tx);rw [←HOO.1] at HOF;have hul0:(Bi K.g st (Af.mk 4 tx fm kids re im)).uses.length=(oo).2.uses.length:=by rw [HOO.1,Qp]
  try clear hcf
  try clear kc0
  try clear kc1
  try clear kc2
  try clear kc3
  try clear kc4
  try clear hcs
  try clear hcp
  try clear hlk
  try clear HREC
  try clear HKD
  try clear HSP
  try clear HFA
  try clear HFN
  try clear HFI
  try clear HCF
  try clear hkn
  try clear hm
  try clear hkl
  try clear hlt
  try clear hlt2
  try clear lg2
  try clear lg3
  try clear e4
  try clear e5
  try clear hk1
  try clear hi
  try clear o0_B
  try clear o_B
  try clear n_c_B
  try clear n_mf_B
  try clear n_ms_B
  try clear n_mn_B
  try clear n_B_c
  try clear n_B_mf
  try clear n_B_ms
  try clear n_B_mn
  try clear e19
  try clear e20
  try clear e11
  try clear e41
  try clear e32
  try clear e33
  try clear e34
  try clear e35
  try clear e4
  try clear e5
  try clear f19
  try clear f20
  try clear f11
  try clear f41
  try clear f32
  try clear f33
  try clear f34
  try clear f35
  try clear f4
  try clear f5
  try clear HNR
  go_region_law (first|((fail_if_success (have hm9:=hcu));refine Bd (f:=75) (vals:= #[.pointer (some ⟨K.c,0,none⟩),.string tx]) rfl _ rfl qh (HOF.1 _ jg) ?_;rintro v u_ ⟨rfl,hcu,hsu⟩;have l_c2:=Ad hcu.row;have q0:=Aa hcu.row 0;have q1:=Aa hcu.row 1;have q2:=Aa hcu.row 2;have q3:=Aa hcu.row 3;have q4:=Aa hcu.row 4;have q5:=Aa hcu.row 5;have q6:=Aa hcu.row 6;have q7:=Aa hcu.row 7;have q8:=Aa hcu.row 8;have q9:=Aa hcu.row 9;have q10:=Aa hcu.row 10;simp at q0 q1 q2 q3 q4 q5 q6 q7 q8 q9 q10;have r_B:=hsu.at Re21_B.1 off_B;have lr_B:=Ad r_B;have zB_0:=Aa r_B 0;have zB_1:=Aa r_B 1;have zB_2:=Aa r_B 2;have zB_3:=Aa r_B 3;have zB_4:=Aa r_B 4;simp at zB_0 zB_1 zB_2 zB_3 zB_4)|(refine Gr (fun W=>Ac [] u_ W∧W.heap[u_.heap.size]? =some (.cells #[.complex .f64 re im,.int .i64 oo.1.1,.string oo.1.2,.bool false,.int .i64 0,.string ⟨#[]⟩,.bool false,.bool false] 106 (0,0))) ⟨jg,qd⟩ ?_;rintro wq ⟨hkq,cG⟩;refine Fk Ui rfl (.tmp 17) (.tmp 25) 68 rfl Tryz.underlying68 HI.1.1 HI.1.2.1 HI.1.2.2.1 HI.1.2.2.2 rfl zi zi rfl rfl (hcu.kp0 hkq).uses (c:= [.complex .f64 re im,.int .i64 oo.1.1,.string oo.1.2,.bool false,.int .i64 0,.string ⟨#[]⟩,.bool false,.bool false]) cG (x:=(⟨re,im,oo.1,false,Gs,false,false⟩:Kf)) (S:=fun _=>False) rfl (fun _ h=>h.elim) (fun _ h=>h.elim) (hcu.kp0 hkq).up (hcu.kp0 hkq).keep.size (Nat.le_of_lt HUL.1) ?_;rintro va wa fl hfl hka hown;obtain ⟨ka2,kc2,hva,-⟩:=hown.slice;obtain ⟨kn,hkn⟩:∃k,k=((oo.2).uses++ [(⟨re,im,oo.1,false,Gs,false,false⟩:Kf)]).length:=⟨_,rfl⟩;rw [←hkn] at hva;subst hva;have HKN:=zh hkn;clear hkn;have r_c:=hka.at (hcu.kp0 hkq).row (fun h=>(hcu.kp0 hkq).ns.1 (hfl _ h));have lw_c:=Ad r_c;have z0:=Aa r_c 0;have z1:=Aa r_c 1;have z2:=Aa r_c 2;have z3:=Aa r_c 3;have z4:=Aa r_c 4;have z5:=Aa r_c 5;have z6:=Aa r_c 6;have z7:=Aa r_c 7;have z8:=Aa r_c 8;have z9:=Aa r_c 9;have z10:=Aa r_c 10;have zf0:=Ab r_c 0;have zf1:=Ab r_c 1;have zf2:=Ab r_c 2;have zf3:=Ab r_c 3;have zf4:=Ab r_c 4;have zf5:=Ab r_c 5;have zf6:=Ab r_c 6;have zf7:=Ab r_c 7;have zf8:=Ab r_c 8;have zf9:=Ab r_c 9;have zf10:=Ab r_c 10;simp at z0 z1 z2 z3 z4 z5 z6 z7 z8 z9 z10))
  all_goals
   go_wp2_with fail
   go_meet
   have hkn:=HKN.1;subst hkn;exact jcd
 exact qsd
theorem TS{K:Ba}(hK:Dp K){T:Nat→Prop}{ua:Option Addr}{uc:Nat}{st:NS}{w:World}(h:CK K T ua uc st w)(kd:Int)(tx:ByteArray)(fm:Nat)(na:Option Addr)(nc re im:Nat)(kids:List Af){rec:Cu}{st1 st':NS}(h4:kd≠4)(h5:kd≠5)(h19:kd≠19)(h20:kd≠20)(h11:kd≠11)(h41:kd≠41)(h32:kd≠32)(h33:kd≠33)(h34:kd≠34)(h35:kd≠35)(hkl:kids.length≤1000000)(hkd:Bc K.w0 (fun _=>True) kids (.slice na kids.length nc))(hrec:Ku K rec)(hpre:Uj K.g st (.mk kd tx fm kids re im)=some st1)(hcf:Lj rec kids st1=some st'):Calls Tryz.prog 43 #[.pointer (some ⟨K.c,0,none⟩),.agg #[.int .i64 kd,.string tx,.float .f64 fm,.slice na kids.length nc,.complex .f64 re im]] w fun r w'=>∃T' ua' uc',r= .returned (.tuple #[])∧CK K T' ua' uc' (st') w'∧Ak K T T' w w':=by
 have e19:(kd==19)=false:=beq_false_of_ne h19;have f19:(kd !=19)=true:=by simp [h19]
 have e20:(kd==20)=false:=beq_false_of_ne h20;have f20:(kd !=20)=true:=by simp [h20]
 have e11:(kd==11)=false:=beq_false_of_ne h11;have f11:(kd !=11)=true:=by simp [h11]
 have e41:(kd==41)=false:=beq_false_of_ne h41;have f41:(kd !=41)=true:=by simp [h41]
 have e32:(kd==32)=false:=beq_false_of_ne h32;have f32:(kd !=32)=true:=by simp [h32]
 have e33:(kd==33)=false:=beq_false_of_ne h33;have f33:(kd !=33)=true:=by simp [h33]
 have e34:(kd==34)=false:=beq_false_of_ne h34;have f34:(kd !=34)=true:=by simp [h34]
 have e35:(kd==35)=false:=beq_false_of_ne h35;have f35:(kd !=35)=true:=by simp [h35]
 have hno:¬(kd=5∨kd=11∨kd=41∨kd=35):=by omega
 have HKD:=zh hkd;have HREC:=zh hrec;have HCF:=zh hcf;have HNR:Hd (Au K.w0 (fun _=>True) (.mk kd tx fm kids re im) (.agg #[.int .i64 kd,.string tx,.float .f64 fm,.slice na kids.length nc,.complex .f64 re im])):=zh (.mk hkd);clear hkd hrec hcf h19 h20 h11 h41 h32 h33 h34 h35;have HC0:=zh h;have HS0:=zh (Ak.refl K T w);clear h
 go_enter Tryz.func43,Tryz.ntmps43
 obtain ⟨l_c,l_mf,l_ms,l_mn⟩:=HC0.1.lt
 go_upto_block 0 with fail
 refine XF ?_;rintro w1 ⟨Kw1,cw1_B⟩;have ⟨n_c_B,n_B_c⟩:=Ai l_c;have ⟨n_mf_B,n_B_mf⟩:=Ai l_mf;have ⟨n_ms_B,n_B_ms⟩:=Ai l_ms;have ⟨n_mn_B,n_B_mn⟩:=Ai l_mn;have o_B:w.heap.size≤w.heap.size:=Nat.le_refl _;have off_B:Fu K T (w.heap.size):=Ao HC0.1 (Nat.le_refl _);have o0_B:K.w0.heap.size≤w.heap.size:=Nat.le_trans HC0.1.keep.size (Nat.le_refl _);have HCw1:=zh (HC0.1.kp0 Kw1);have HSw1:=zh (HS0.1.loc Kw1 qg);have Rw1_B:=zh cw1_B;clear Kw1 cw1_B l_c l_mf l_ms l_mn HC0 HS0
 go_cut [] (fun W=>∃T' ua' uc',CK K T' ua' uc' st1 W∧Ak K T T' w W∧W.heap[w.heap.size]? =some (.cells #[.int .i64 kd,.string tx,.float .f64 fm,.slice na kids.length nc,.complex .f64 re im] 50 (0,0))∧Fu K T' (w.heap.size))
 case first=>
  clear HKD HREC HCF;rw [Km,if_neg h4,if_neg hno] at hpre;have e4:(kd==4)=false:=beq_false_of_ne h4;have f4:(kd !=4)=true:=by simp [h4]
  have e5:(kd==5)=false:=beq_false_of_ne h5;have f5:(kd !=5)=true:=by simp [h5]
  by_cases h38:kd=38
  ·rw [if_pos h38] at hpre;subst h38
   by_cases hfn:0<st.fn
   ·rw [if_pos (.inl hfn)] at hpre;obtain rfl:Al st re im 32=st1:=by simpa using hpre
    have d0:decide (0<st.fn)=true:=by simp [hfn]
    have d1:(0:Int)<(st.fn:Int):=by omega
    clear hpre;exact jqd
   have hf0:st.fn=0:=by omega
   have d0:decide (0<st.fn)=false:=by simp [hf0]
   by_cases h5:st.rule=5
   ·obtain rfl:st=st1:=by simpa [h5,hf0] using hpre
    have g5:(st.rule==5)=true:=by simp [h5]
    have g5n:(st.rule !=5)=false:=by simp [h5]
    clear hpre h5;exact YO
   have g5:(st.rule==5)=false:=beq_false_of_ne h5;have g5n:(st.rule !=5)=true:=by simp [h5]
   by_cases h6:st.rule=6
   ·obtain rfl:st=st1:=by simpa [h6,hf0] using hpre
    have g6:(st.rule==6)=true:=by simp [h6]
    have g6n:(st.rule !=6)=false:=by simp [h6]
    clear hpre h6 h5;exact YO
   have g6:(st.rule==6)=false:=beq_false_of_ne h6;have g6n:(st.rule !=6)=true:=by simp [h6]
   by_cases h7:st.rule=7
   ·obtain rfl:st=st1:=by simpa [h7,hf0] using hpre
    have g7:(st.rule==7)=true:=by simp [h7]
    have g7n:(st.rule !=7)=false:=by simp [h7]
    clear hpre h7 h6 h5;exact YO
   have g7:(st.rule==7)=false:=beq_false_of_ne h7;have g7n:(st.rule !=7)=true:=by simp [h7]
   rw [if_pos (.inr ⟨h5,h6,h7⟩)] at hpre;obtain rfl:Al st re im 32=st1:=by simpa using hpre
   clear hpre h5 h6 h7;exact jqd
  rw [if_neg h38] at hpre;have e38:(kd==38)=false:=beq_false_of_ne h38;have f38:(kd !=38)=true:=by simp [h38]
  by_cases h40:kd=40
  ·rw [if_pos h40] at hpre;subst h40
   by_cases hfn:st.fn=0
   ·rw [if_pos hfn] at hpre;obtain rfl:Al st re im 32=st1:=by simpa using hpre
    have d0:((st.fn:Int)==0)=true:=by simp [hfn]
    have d1:(st.fn==0)=true:=by simp [hfn]
    clear hpre hfn;exact jqd
   rw [if_neg hfn] at hpre;obtain rfl:st=st1:=by simpa using hpre
   have d0:((st.fn:Int)==0)=false:=by simp;omega
   have d1:(st.fn==0)=false:=by simp [hfn]
   clear hpre;exact YO
  rw [if_neg h40] at hpre;have e40:(kd==40)=false:=beq_false_of_ne h40;have f40:(kd !=40)=true:=by simp [h40]
  by_cases h36:kd=36
  ·subst h36;rw [if_pos (.inl rfl)] at hpre;exact jhe
  by_cases h37:kd=37
  ·subst h37;rw [if_pos (.inr rfl)] at hpre;exact jhe
  rw [if_neg (by simp [h36,h37])] at hpre;obtain rfl:st=st1:=by simpa using hpre
  clear hpre;have e36:(kd==36)=false:=beq_false_of_ne h36;have f36:(kd !=36)=true:=by simp [h36]
  have e37:(kd==37)=false:=beq_false_of_ne h37;have f37:(kd !=37)=true:=by simp [h37]
  exact YO
 exact qsd
end Go.Proofs.YtkfillfkbhbbjaaGreatDoor
