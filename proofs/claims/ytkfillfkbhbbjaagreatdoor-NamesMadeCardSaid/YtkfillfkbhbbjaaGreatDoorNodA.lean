/- NodA. -/
import Derived.Test.YtkfillfkbhbbjaaGreatDoorDWk
set_option maxRecDepth 100000
set_option maxHeartbeats 4000000
set_option linter.unusedSimpArgs false
set_option linter.unusedVariables false
namespace Go.Proofs.YtkfillfkbhbbjaaGreatDoor
open Go.RowKit
theorem CK.rule{K:Ba}(hK:Dp K){T:Nat→Prop}{ua:Option Addr}{uc:Nat}{st:NS}{W:World}(h:CK K T ua uc st W){i:Nat}(hi:i<K.g.rules.length):
  ∃g o pa pc b0 b1 b2 b3 b4,K.ra=some ⟨g,o,none⟩∧W.cell? ⟨g,o+i*9,none⟩=some (.int .i64 K.g.rules[i].kind)∧W.cell? ⟨g,o+i*9+1,none⟩=some (.int .i64 K.g.rules[i].n)∧W.cell? ⟨g,o+i*9+2,none⟩=some (.slice pa K.g.rules[i].pats.length pc)∧W.cell? ⟨g,o+i*9+3,none⟩=some b0∧W.cell? ⟨g,o+i*9+4,none⟩=some b1∧W.cell? ⟨g,o+i*9+5,none⟩=some b2∧W.cell? ⟨g,o+i*9+6,none⟩=some b3∧
   W.cell? ⟨g,o+i*9+7,none⟩=some b4∧W.cell? ⟨g,o+i*9+8,none⟩=some (.complex .f64 K.g.rules[i].re K.g.rules[i].im)∧Bc K.w0 (fun _=>True) K.g.rules[i].pats (.slice pa K.g.rules[i].pats.length pc)∧Au K.w0 (fun _=>True) K.g.rules[i].body (.agg #[b0,b1,b2,b3,b4]):=by
 obtain ⟨g,o,cap,c,hv,-,hg,⟨pa,pc,b0,b1,b2,b3,b4,rfl,hp,hn⟩,hc⟩:=hK.rules.get Dh hi
 have hc':∀j u,[.int .i64 K.g.rules[i].kind,.int .i64 K.g.rules[i].n,.slice pa K.g.rules[i].pats.length pc,b0,b1,b2,b3,b4,.complex .f64 K.g.rules[i].re K.g.rules[i].im][j]? =some u→W.cell? ⟨g,o+i*9+j,none⟩=some u:=fun j u hj=>by
  exact jve
 have hra:K.ra=some ⟨g,o,none⟩:=by injection hv
 exact ⟨g,o,pa,pc,b0,b1,b2,b3,b4,hra,hc' 0 _ rfl,hc' 1 _ rfl,hc' 2 _ rfl,hc' 3 _ rfl,hc' 4 _ rfl,hc' 5 _ rfl,hc' 6 _ rfl,hc' 7 _ rfl,hc' 8 _ rfl,hp,hn⟩
def Abp(K:Ba)(rec:Cu)(st':NS)(T0:Nat→Prop)(w:World)(g:Nat)(j:Value)(W:World):Prop:=
 ∃k:Nat,j= .int .i64 k∧k≤K.g.rules.length∧g+k=K.g.rules.length+1∧∃st T ua uc,BN rec (K.g.rules.drop k) st=some st'∧CK K T ua uc st W∧Ak K T0 T w W
def Abq(K:Ba)(rec:Cu)(pats:List Af)(st':NS)(T0:Nat→Prop)(w:World)(B:Nat)(ob:Obj)(g:Nat)(j:Value)(W:World):Prop:=
 ∃k:Nat,j= .int .i64 k∧k≤pats.length∧g+k=pats.length+1∧∃st T ua uc,Qm rec (pats.drop k) st=some st'∧CK K T ua uc st W∧Ak K T0 T w W∧W.heap[B]? =some ob∧Fu K T B
def Aat(K:Ba)(rec:Cu)(st':NS)(T0:Nat→Prop)(w:World)(g:Nat)(j:Value)(W:World):Prop:=
 ∃k:Nat,j= .int .i64 k∧k≤K.g.funcs.length∧g+k=K.g.funcs.length+1∧∃st T ua uc,BO rec k (K.g.funcs.drop k) st=some st'∧CK K T ua uc st W∧Ak K T0 T w W
theorem VQ{K:Ba}(hK:Dp K){T:Nat→Prop}{ua:Option Addr}{uc:Nat}{st:NS}{w:World}(h:CK K T ua uc st w){rec:Cu}{s1 st':NS}(hrec:Ku K rec)(har:BN rec K.g.rules st=some s1)(haf:BO rec 0 K.g.funcs s1=some st'):Calls Tryz.prog 25 #[.pointer (some ⟨K.c,0,none⟩)] w fun r w'=>∃T' ua' uc',r= .returned (.tuple #[])∧CK K T' ua' uc' (st') w'∧Ak K T T' w w':=by
 have hrs:=hK.rsmall;have hfs:=hK.small;have HC0:=zh h;have HS0:=zh (Ak.refl K T w);have HREC:=zh hrec;have HAR:=zh har;have HAF:=zh haf;clear h hrec har haf
 go_enter Tryz.func25,Tryz.ntmps25
 obtain ⟨l_c,xc_0,xc_1,xc_2,xc_3,xc_4,xc_5,xc_6,xc_7,xc_8,xc_9,xc_10,yc_0,yc_1,yc_2,yc_3,yc_4,yc_5,yc_6,yc_7,yc_8,yc_9,yc_10⟩:=Cp HC0.1.row;obtain ⟨-,l_mf,l_ms,l_mn⟩:=HC0.1.lt;obtain ⟨ra,hra0⟩:∃x,K.ra=x:=⟨_,rfl⟩;rw [hra0] at xc_0;have HRA0:=zh hra0;clear hra0
 go_wp2_with fail
 clear l_c xc_0 xc_1 xc_2 xc_3 xc_4 xc_5 xc_6 xc_7 xc_8 xc_9 xc_10 yc_0 yc_1 yc_2 yc_3 yc_4 yc_5 yc_6 yc_7 yc_8 yc_9 yc_10 l_mf l_ms l_mn
 go_loopg [14] (K.g.rules.length+1) (fun g j wr=>Abp K rec s1 T w g j wr)
 case atStart=>exact ⟨0,rfl,Nat.zero_le _,rfl,_,_,_,_,HAR.1,HC0.1,HS0.1⟩
 rename World=>wo
 obtain ⟨k,rfl,hk1,hk2,st1,T1,ua1,uc1,har,hc,hs⟩:=hrel;have HCr:=zh hc;have HSr:=zh hs;clear hc hs
 by_cases hlt:k<K.g.rules.length
 ·obtain ⟨g,o,pa,pc,b0,b1,b2,b3,b4,hra,c0,c1,c2,c3,c4,c5,c6,c7,c8,hkp,hnb⟩:=CK.rule hK HCr.1 hlt;obtain ⟨fmb,nab,ncb,hvb,-⟩:=hnb.kids;simp only [Value.agg.injEq,Array.mk.injEq,List.cons.injEq,and_true] at hvb;obtain ⟨rfl,rfl,rfl,rfl,rfl⟩:=hvb;have hps:K.g.rules[k].pats.length≤1000000:=hK.tsmall _ (List.getElem_mem hlt);have lg:g<wo.heap.size:=Cd c0;rw [List.drop_eq_getElem_cons hlt,BN] at har;generalize K.g.rules[k]=ru at*
  simp only [Option.bind_eq_bind,Option.bind_eq_some_iff] at har;obtain ⟨s2,hp,s3,hb,har⟩:=har;have HPF:=zh hp;have HKP:=zh hkp;have era:=HRA0.1.symm.trans hra;subst era;clear hp hkp hra
  cases gk with
  |zero=>omega
  | succ f=>
   obtain ⟨l_c,xc_0,xc_1,xc_2,xc_3,xc_4,xc_5,xc_6,xc_7,xc_8,xc_9,xc_10,yc_0,yc_1,yc_2,yc_3,yc_4,yc_5,yc_6,yc_7,yc_8,yc_9,yc_10⟩:=Cp HCr.1.row;obtain ⟨-,l_mf,l_ms,l_mn⟩:=HCr.1.lt
   go_wp2_with fail
   refine Bj (fun W=>Ac [K.c] wo W∧W.heap[K.c]? =some (.cells #[.slice K.ra K.g.rules.length K.rc,.slice K.fa K.g.funcs.length K.fc,.map (some K.mf),.int .i64 st1.fn,.int .i64 ru.kind,.int .i64 0,.slice ua1 st1.uses.length uc1,.map (some K.ms),.map (some K.mn),.complex .f64 st1.re st1.im,.int .i64 st1.e] 70 (0,0))∧W.heap[wo.heap.size]? =some (.cells #[.int .i64 ru.kind,.int .i64 ru.n,.slice pa ru.pats.length pc,.int .i64 ru.body.kind,.string ru.body.name,.float .f64 fmb,.slice nab ru.body.kids.length ncb,.complex .f64 ru.body.re ru.body.im,.complex .f64 ru.re ru.im] 52 (0,0))) ⟨jg,(qb HCr.1.row l_c),(qb HCr.1.row l_c)⟩ ?_;rintro w51 ⟨Kw51,cw51_c,cw51_Ru⟩;have ⟨n_c_Ru,n_Ru_c⟩:=Ai l_c;have ⟨n_mf_Ru,n_Ru_mf⟩:=Ai l_mf;have ⟨n_ms_Ru,n_Ru_ms⟩:=Ai l_ms;have ⟨n_mn_Ru,n_Ru_mn⟩:=Ai l_mn;have o_Ru:w.heap.size≤wo.heap.size:=HSr.1.size;have off_Ru:Fu K T1 (wo.heap.size):=Ao HCr.1 (Nat.le_refl _);have o0_Ru:K.w0.heap.size≤wo.heap.size:=Nat.le_trans HCr.1.keep.size (Nat.le_refl _);have HCw51:Hd (CK K T1 ua1 uc1 ({st1 with rule:=ru.kind,loops:=0}) w51):=zh (HCr.1.upd hK Kw51 cw51_c qg qg qg qg qg rfl rfl rfl HCr.1.fn (show (-1000000:Int)≤0∧(0:Int)≤1000000 from ⟨by omega,by omega⟩));have HSw51:=zh (HSr.1.loc Kw51 XJ);have Rw51_Ru:=zh cw51_Ru
   clear Kw51 cw51_c cw51_Ru l_c xc_0 xc_1 xc_2 xc_3 xc_4 xc_5 xc_6 xc_7 xc_8 xc_9 xc_10 yc_0 yc_1 yc_2 yc_3 yc_4 yc_5 yc_6 yc_7 yc_8 yc_9 yc_10 l_mf l_ms l_mn HCr HSr
   go_loopg [29] (ru.pats.length+1) (fun g j wp=>Abq K rec ru.pats s2 T w (wo.heap.size) (.cells #[.int .i64 ru.kind,.int .i64 ru.n,.slice pa ru.pats.length pc,.int .i64 ru.body.kind,.string ru.body.name,.float .f64 fmb,.slice nab ru.body.kids.length ncb,.complex .f64 ru.body.re ru.body.im,.complex .f64 ru.re ru.im] 52 (0,0)) g j wp)
   case atStart=>exact ⟨0,rfl,Nat.zero_le _,rfl,_,_,_,_,HPF.1,HCw51.1,HSw51.1,Rw51_Ru.1,off_Ru⟩
   obtain ⟨i,rfl,hi1,hi2,st2,T2,ua2,uc2,hpf,hc,hs,hB,off_Ru⟩:=hrel;have HCp:=zh hc;have HSp:=zh hs;have RRu:=zh hB;clear hc hs hB
   by_cases hlt2:i<ru.pats.length
   ·obtain ⟨g3,o3,fm3,na3,nc3,hna,kc0,kc1,kc2,kc3,kc4,hkn⟩:=CK.kid HCp.1 HKP.1 hlt2;subst hna;have lg3:g3<wr.heap.size:=Cd kc0;rw [List.drop_eq_getElem_cons hlt2,Qm] at hpf;generalize ru.pats[i]=kk at*
    simp only [Option.bind_eq_bind,Option.bind_eq_some_iff] at hpf;obtain ⟨s4,hr,hpf⟩:=hpf
    cases gk with
    |zero=>omega
    |succ f2=>
     obtain ⟨l_c,l_mf,l_ms,l_mn⟩:=HCp.1.lt;have l_Ru:=Ad RRu.1
     go_wp2_with fail
     refine YG ?_;rintro w71 ⟨Kw71,cw71_Kd⟩;have ⟨n_c_Kd,n_Kd_c⟩:=Ai l_c;have ⟨n_mf_Kd,n_Kd_mf⟩:=Ai l_mf;have ⟨n_ms_Kd,n_Kd_ms⟩:=Ai l_ms;have ⟨n_mn_Kd,n_Kd_mn⟩:=Ai l_mn;have ⟨n_Ru_Kd,n_Kd_Ru⟩:=Ai l_Ru;have o_Kd:w.heap.size≤wr.heap.size:=HSp.1.size;have off_Kd:Fu K T2 (wr.heap.size):=Ao HCp.1 (Nat.le_refl _);have o0_Kd:K.w0.heap.size≤wr.heap.size:=Nat.le_trans HCp.1.keep.size (Nat.le_refl _);have Rw71_Ru:=zh (Kw71.at RRu.1 qg);have HCw71:=zh (HCp.1.kp0 Kw71);have HSw71:=zh (HSp.1.loc Kw71 qg);have Rw71_Kd:=zh cw71_Kd;clear Kw71 cw71_Kd l_c l_Ru l_mf l_ms l_mn RRu HCp HSp;refine (HREC.1 _ _ _ _ hr hkn _ _ _ _ HCw71.1).mono ?_;rintro r e72 ⟨T72,ua72,uc72,rfl,hc,hs⟩;have off2_Ru:=hs.off (Ad Rw71_Ru.1) off_Ru;have Re72_Ru:=zh (hs.at Rw71_Ru.1 off_Ru);have off2_Kd:=hs.off (Ad Rw71_Kd.1) off_Kd;have Re72_Kd:=zh (hs.at Rw71_Kd.1 off_Kd);have off_Ru':=off2_Ru;have off_Kd':=off2_Kd;have HCe72:=zh hc;have HSe72:=zh (HSw71.1.trans hs);clear Rw71_Ru off_Ru Rw71_Kd off_Kd HCw71 HSw71 hc hs;have off_Ru:=off_Ru';clear off_Ru' off2_Ru;have off_Kd:=off_Kd';clear off_Kd' off2_Kd;obtain ⟨l_c,l_mf,l_ms,l_mn⟩:=HCe72.1.lt;have l_Ru:=Ad Re72_Ru.1;have l_Kd:=Ad Re72_Kd.1
     go_wp2_with fail
     go_roundg f2
     case measure=>omega
     exact ⟨i+1,by first|rfl|(simp;done)|(simp;omega),by omega,by omega,_,_,_,_,hpf,HCe72.1,HSe72.1,Re72_Ru.1,off_Ru⟩
   have hie:i=ru.pats.length:=by omega
   subst hie;rw [List.drop_length,Qm] at hpf;obtain rfl:st2=s2:=by simpa using hpf
   clear hpf;obtain ⟨l_c,l_mf,l_ms,l_mn⟩:=HCp.1.lt;obtain ⟨l_Ru,xRu⟩:=BI RRu.1
   go_wp2_with fail
   clear l_c l_Ru xRu l_mf l_ms l_mn;refine (HREC.1 _ _ _ _ hb hnb _ _ _ _ HCp.1).mono ?_;rintro r e71 ⟨T71,ua71,uc71,rfl,hc,hs⟩;have off2_Ru:=hs.off (Ad RRu.1) off_Ru;have Re71_Ru:=zh (hs.at RRu.1 off_Ru);have off_Ru':=off2_Ru;have HCe71:=zh hc;have HSe71:=zh (HSp.1.trans hs);clear RRu off_Ru HCp HSp hc hs;have off_Ru:=off_Ru';clear off_Ru' off2_Ru;obtain ⟨l_c,l_mf,l_ms,l_mn⟩:=HCe71.1.lt;have l_Ru:=Ad Re71_Ru.1
   go_wp2_with fail
   go_roundg f
   case measure=>omega
   exact ⟨k+1,by first|rfl|(simp;done)|(simp;omega),by omega,by omega,_,_,_,_,har,HCe71.1,HSe71.1⟩
 have hke:k=K.g.rules.length:=by omega
 subst hke;rw [List.drop_length,BN] at har;obtain rfl:st1=s1:=by simpa using har
 clear har;obtain ⟨l_c,xc_0,xc_1,xc_2,xc_3,xc_4,xc_5,xc_6,xc_7,xc_8,xc_9,xc_10,yc_0,yc_1,yc_2,yc_3,yc_4,yc_5,yc_6,yc_7,yc_8,yc_9,yc_10⟩:=Cp HCr.1.row;obtain ⟨-,l_mf,l_ms,l_mn⟩:=HCr.1.lt;obtain ⟨fa,hfa0⟩:∃x,K.fa=x:=⟨_,rfl⟩;rw [hfa0] at xc_1;have HFA0:=zh hfa0;clear hfa0
 go_wp2_with fail
 clear l_c xc_0 xc_1 xc_2 xc_3 xc_4 xc_5 xc_6 xc_7 xc_8 xc_9 xc_10 yc_0 yc_1 yc_2 yc_3 yc_4 yc_5 yc_6 yc_7 yc_8 yc_9 yc_10 l_mf l_ms l_mn
 go_loopg [48] (K.g.funcs.length+1) (fun g j wf=>Aat K rec st' T w g j wf)
 case atStart=>exact ⟨0,rfl,Nat.zero_le _,rfl,_,_,_,_,HAF.1,HCr.1,HSr.1⟩
 obtain ⟨k,rfl,hk1,hk2,st3,T3,ua3,uc3,haf,hc,hs⟩:=hrel;have HCf:=zh hc;have HSf:=zh hs;clear hc hs
 by_cases hlt:k<K.g.funcs.length
 ·obtain ⟨g,o,pa,pc,b0,b1,b2,b3,b4,hfa,c0,c1,c2,c3,c4,c5,c6,c7,hsp,hnb⟩:=CK.func hK HCf.1 hlt;obtain ⟨fmb,nab,ncb,hvb,-⟩:=hnb.kids;simp only [Value.agg.injEq,Array.mk.injEq,List.cons.injEq,and_true] at hvb;obtain ⟨rfl,rfl,rfl,rfl,rfl⟩:=hvb;have lg:g<wr.heap.size:=Cd c0;have efa:=HFA0.1.symm.trans hfa;subst efa;clear hfa;rw [List.drop_eq_getElem_cons hlt,BO] at haf;generalize K.g.funcs[k]=fu at*
  simp only [Option.bind_eq_bind,Option.bind_eq_some_iff] at haf;obtain ⟨s3,hb,haf⟩:=haf
  cases gk with
  |zero=>omega
  |succ f=>
   obtain ⟨l_c,xc_0,xc_1,xc_2,xc_3,xc_4,xc_5,xc_6,xc_7,xc_8,xc_9,xc_10,yc_0,yc_1,yc_2,yc_3,yc_4,yc_5,yc_6,yc_7,yc_8,yc_9,yc_10⟩:=Cp HCf.1.row;obtain ⟨-,l_mf,l_ms,l_mn⟩:=HCf.1.lt
   go_wp2_with fail
   refine An (fun W=>Ac [K.c] wr W∧W.heap[K.c]? =some (.cells #[.slice K.ra K.g.rules.length K.rc,.slice K.fa K.g.funcs.length K.fc,.map (some K.mf),.int .i64 (k+1),.int .i64 st3.rule,.int .i64 0,.slice ua3 st3.uses.length uc3,.map (some K.ms),.map (some K.mn),.complex .f64 st3.re st3.im,.int .i64 st3.e] 70 (0,0))∧W.heap[wr.heap.size]? =some (.cells #[.string fu.name,.slice pa fu.params.length pc,.int .i64 fu.body.kind,.string fu.body.name,.float .f64 fmb,.slice nab fu.body.kids.length ncb,.complex .f64 fu.body.re fu.body.im,.complex .f64 fu.re fu.im] 61 (0,0))) ⟨jg,(qb HCf.1.row l_c),(qb HCf.1.row l_c)⟩ ?_;rintro w81 ⟨Kw81,cw81_c,cw81_Fu⟩;have ⟨n_c_Fu,n_Fu_c⟩:=Ai l_c;have ⟨n_mf_Fu,n_Fu_mf⟩:=Ai l_mf;have ⟨n_ms_Fu,n_Fu_ms⟩:=Ai l_ms;have ⟨n_mn_Fu,n_Fu_mn⟩:=Ai l_mn;have o_Fu:w.heap.size≤wr.heap.size:=HSf.1.size;have off_Fu:Fu K T3 (wr.heap.size):=Ao HCf.1 (Nat.le_refl _);have o0_Fu:K.w0.heap.size≤wr.heap.size:=Nat.le_trans HCf.1.keep.size (Nat.le_refl _);have HCw81:Hd (CK K T3 ua3 uc3 ({st3 with fn:=k+1,loops:=0}) w81):=zh (HCf.1.upd hK Kw81 cw81_c qg qg qg qg qg rfl rfl rfl (show k+1≤K.g.funcs.length from hlt) (show (-1000000:Int)≤0∧(0:Int)≤1000000 from ⟨by omega,by omega⟩));have HSw81:=zh (HSf.1.loc Kw81 XJ);have Rw81_Fu:=zh cw81_Fu
   clear Kw81 cw81_c cw81_Fu l_c xc_0 xc_1 xc_2 xc_3 xc_4 xc_5 xc_6 xc_7 xc_8 xc_9 xc_10 yc_0 yc_1 yc_2 yc_3 yc_4 yc_5 yc_6 yc_7 yc_8 yc_9 yc_10 l_mf l_ms l_mn HCf HSf;refine (HREC.1 _ _ _ _ hb hnb _ _ _ _ HCw81.1).mono ?_;rintro r e82 ⟨T82,ua82,uc82,rfl,hc,hs⟩;have off2_Fu:=hs.off (Ad Rw81_Fu.1) off_Fu;have Re82_Fu:=zh (hs.at Rw81_Fu.1 off_Fu);have off_Fu':=off2_Fu;have HCe82:=zh hc;have HSe82:=zh (HSw81.1.trans hs);clear Rw81_Fu off_Fu HCw81 HSw81 hc hs;have off_Fu:=off_Fu';clear off_Fu' off2_Fu;obtain ⟨l_c,l_mf,l_ms,l_mn⟩:=HCe82.1.lt;have l_Fu:=Ad Re82_Fu.1
   go_wp2_with fail
   go_roundg f
   case measure=>omega
   exact ⟨k+1,by first|rfl|(simp;done)|(simp;omega),by omega,by omega,_,_,_,_,haf,HCe82.1,HSe82.1⟩
 have hke:k=K.g.funcs.length:=by omega
 subst hke;rw [List.drop_length,BO] at haf;obtain rfl:st3=st':=by simpa using haf
 clear haf;obtain ⟨l_c,l_mf,l_ms,l_mn⟩:=HCf.1.lt
 go_wp2_with fail
 refine Cq (v:= .tuple #[]) (fun W=>Ac [] wr W) jg (fun w81 hW=> ?_) rfl (fun w81 hW=> ?_)
 ·have Kw81:Ac [] wr w81:=hW;exact Le
 have Kw81:Ac [] wr w81:=hW;have HCw81:=zh (HCf.1.kp0 Kw81);have HSw81:=zh (HSf.1.loc Kw81 qg);clear Kw81 l_c l_mf l_ms l_mn HCf HSf;exact ⟨_,_,_,rfl,HCw81.1,HSw81.1⟩
end Go.Proofs.YtkfillfkbhbbjaaGreatDoor
