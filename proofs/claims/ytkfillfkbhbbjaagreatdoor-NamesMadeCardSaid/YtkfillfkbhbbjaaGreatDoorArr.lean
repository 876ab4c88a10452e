/- Kin, HedL, Arr. -/
import Derived.Test.YtkfillfkbhbbjaaGreatDoorDWq
import Derived.Test.YtkfillfkbhbbjaaGreatDoorDWk
set_option maxRecDepth 100000
set_option maxHeartbeats 4000000
set_option linter.unusedSimpArgs false
set_option linter.unusedVariables false
namespace Go.Proofs.YtkfillfkbhbbjaaGreatDoor
open Go.RowKit
def Aaj(K:Ba)(T:Nat→Prop)(ua:Option Addr)(uc:Nat)(st:NS)(w:World)(kb it:Nat)(g:Nat)(W:World):Prop:=
 ∃p n,Fr W it K.mn st.seen p n∧g=n+1∧Ex W kb (fun x=>if p.any (AI st x)=true then 1 else 0)∧CK K T ua uc st W∧Ac [] w W
def Aai(K:Ba)(T:Nat→Prop)(ua:Option Addr)(uc:Nat)(st:NS)(kf:Cs)(w:World)(kb:Nat)(g:Nat)(j:Value)(W:World):Prop:=
 ∃k:Nat,j= .int .i64 k∧k≤st.uses.length∧g+k=st.uses.length+1∧∃kk,Nj st (st.uses.drop k) kk=some kf∧Ex W kb (fun x=>kof x kk)∧CK K T ua uc st W∧Ac [] w W
theorem Ze{K:Ba}(hK:Dp K){T:Nat→Prop}{ua:Option Addr}{uc:Nat}{st:NS}{w:World}(h:CK K T ua uc st w){kf:Cs}(hkf:Mb st=some kf)(hul:st.uses.length≤1000000):Calls Tryz.prog 44 #[.pointer (some ⟨K.c,0,none⟩)] w fun r w'=>∃b,r= .returned (.map (some b))∧w.heap.size≤b∧Ex w' b (fun x=>kof x kf)∧Ac [] w w':=by
 unfold Mb at hkf;simp only [Option.bind_eq_bind,Option.bind_eq_some_iff] at hkf;obtain ⟨k1,hks,hku1⟩:=hkf;obtain ⟨hroots,hkof⟩:=Sq hks;have HU1:=zh hku1;have HRO:=zh hroots;have HKO:=zh hkof;clear hks hku1 hroots hkof;have HC0:=zh h;have HS0:=zh (Ak.refl K T w);have HK0:=zh (Ac.refl [] w);clear h;have n_kb_mn:w.heap.size≠K.mn:=fun e=>by have:=HC0.1.lt;omega
 have n_kb_c:w.heap.size≠K.c:=fun e=>by have:=HC0.1.lt;omega
 have n_c_kb:=Ne.symm n_kb_c;have n_mn_kb:=Ne.symm n_kb_mn;have n_mf_kb:K.mf≠w.heap.size:=fun e=>by have:=HC0.1.lt;omega
 have n_ms_kb:K.ms≠w.heap.size:=fun e=>by have:=HC0.1.lt;omega
 have o0_kb:K.w0.heap.size≤w.heap.size:=HC0.1.keep.size;have o_kb:w.heap.size≤w.heap.size:=Nat.le_refl _;have hmm:(Instr.makeMap 103 none).run Tryz.prog w= .ok (.map (some w.heap.size)) (w.alloc (.map #[] 0)):=rfl
 go_enter Tryz.func44,Tryz.ntmps44
 obtain ⟨l_c,l_mf,l_ms,l_mn⟩:=HC0.1.lt
 go_upto_region 2 with fail
 refine Bj (fun W=>Ac [] w W∧W.heap[w.heap.size]? =some (.map #[] 0)) ⟨jg,jb⟩ ?_;rintro w1 ⟨k1,ck⟩;have HC1:=zh (HC0.1.kp0 k1);have HCB1:=zh (HC0.1.kp0 k1);have HKB1:=zh (Ex.start ck);have HK1:=zh (HK0.1.trans k1 qg);have off_kb:=Ao HC0.1 (Nat.le_refl _);have hlk:=Ad ck;clear ck k1;obtain ⟨w2,hrun,k2,hsz,hrs⟩:=Fr.start HC1.1.seen Tryz.underlying67;have HC2:=zh (HC1.1.kp0 k2);have HKB2:=zh (HKB1.1.keep k2 qg);have HK2:=zh (HK1.1.trans k2 qg);have HR2:=zh hrs;have hw1:w.heap.size≤w1.heap.size:=HK1.1.size;have off_it:=Ao HC0.1 hw1;clear k2 hrs hsz HC1 HKB1 HK1;obtain ⟨l_c,xc_0,xc_1,xc_2,xc_3,xc_4,xc_5,xc_6,xc_7,xc_8,xc_9,xc_10,yc_0,yc_1,yc_2,yc_3,yc_4,yc_5,yc_6,yc_7,yc_8,yc_9,yc_10⟩:=Cp (HCB1.1.row)
 go_wp2_with fail
 go_loopg [] (st.seen.length+1) (fun g wr=>Aaj K T ua uc st w (w.heap.size) (w1.heap.size) g wr)
 case atStart=>exact ⟨[],st.seen.length,HR2.1,rfl,HKB2.1.of (fun x=>rfl),HC2.1,HK2.1⟩
 have n_kb_it:w.heap.size≠w1.heap.size:=Nat.ne_of_lt hlk;have n_it_kb:=Ne.symm n_kb_it
 rename World=>wo
 obtain ⟨p,n,hrs,hg,hkb,hc,hk⟩:=hrel;have HCwo:=zh hc;have HKBwo:=zh hkb;have HKwo:=zh hk;have HSwo:=zh ((Ak.refl K T w).loc hk qg);clear hc hkb hk
 rcases hrs.next 0 with ⟨hperm,hrun2⟩|⟨t,n2,wn,ht,hn,hrun2,hkn,hszn,hrn⟩
 ·have HOF:Hd (∀x,(if p.any (AI st x)=true then 1 else 0)=kof x k1):=zh (fun x=>by rw [HKO.1 x,RE hperm];rfl);clear hrs hperm;have l_kb:=HKBwo.1.lt;obtain ⟨l_c,xc_0,xc_1,xc_2,xc_3,xc_4,xc_5,xc_6,xc_7,xc_8,xc_9,xc_10,yc_0,yc_1,yc_2,yc_3,yc_4,yc_5,yc_6,yc_7,yc_8,yc_9,yc_10⟩:=Cp HCwo.1.row;obtain ⟨-,l_mf,l_ms,l_mn⟩:=HCwo.1.lt;obtain ⟨ua0,hua0⟩:∃x,ua=x:=⟨_,rfl⟩;have HUA:=zh hua0;rw [hua0] at xc_6;clear hua0
  go_wp2_with fail
  clear l_c xc_0 xc_1 xc_2 xc_3 xc_4 xc_5 xc_6 xc_7 xc_8 xc_9 xc_10 yc_0 yc_1 yc_2 yc_3 yc_4 yc_5 yc_6 yc_7 yc_8 yc_9 yc_10 l_mf l_ms l_mn l_kb
  go_loopg [34] (st.uses.length+1) (fun g j wr=>Aai K T ua uc st kf w (w.heap.size) g j wr)
  case atStart=>exact ⟨0,rfl,Nat.zero_le _,rfl,k1,HU1.1,HKBwo.1.of HOF.1,HCwo.1,HKwo.1⟩
  obtain ⟨k,rfl,hk1,hk2,kk,hku,hkb,hc,hk⟩:=hrel;have HCwr:=zh hc;have HKBwr:=zh hkb;have HKwr:=zh hk;have HSwr:=zh ((Ak.refl K T w).loc hk qg);clear hc hkb hk
  by_cases hlt:k<st.uses.length
  ·obtain ⟨gu,hgu,q0,q1,q2,q3,q4,q5,q6,q7⟩:=CK.use HCwr.1 hlt;have euu:=HUA.1.symm.trans hgu;subst euu;have lgu:gu<wr.heap.size:=Cd q0;rw [List.drop_eq_getElem_cons hlt,Nj] at hku;generalize st.uses[k]=u at*
   cases gk with
   |zero=>omega
   | succ f=>
    cases hkid:u.kid with
    |true=>
     rw [if_pos (by rw [hkid];rfl)] at hku;have l_kb:=HKBwr.1.lt;obtain ⟨l_c,l_mf,l_ms,l_mn⟩:=HCwr.1.lt
     go_wp2_with fail
     go_roundg f
     case measure=>omega
     refine Ch (fun W=>Ac [] wr W∧W.heap[wr.heap.size]? =some (.cells #[.complex .f64 u.re u.im,.int .i64 u.of.1,.string u.of.2,.bool u.array,.int .i64 u.param.1,.string u.param.2,.bool true,.bool u.bad] 106 (0,0))) ⟨jg,jb⟩ ?_;exact qzd
    | false=>
     cases hbad:u.bad with
     |true=>
      rw [if_pos (by rw [hkid,hbad];rfl)] at hku;have l_kb:=HKBwr.1.lt;obtain ⟨l_c,l_mf,l_ms,l_mn⟩:=HCwr.1.lt
      go_wp2_with fail
      go_roundg f
      case measure=>omega
      refine Ch (fun W=>Ac [] wr W∧W.heap[wr.heap.size]? =some (.cells #[.complex .f64 u.re u.im,.int .i64 u.of.1,.string u.of.2,.bool u.array,.int .i64 u.param.1,.string u.param.2,.bool false,.bool true] 106 (0,0))) ⟨jg,jb⟩ ?_;exact qzd
     | false=>
      rw [if_neg (by rw [hkid,hbad];simp)] at hku;simp only [Option.bind_eq_bind,Option.bind_eq_some_iff] at hku;obtain ⟨r,hrt,hku⟩:=hku;have HRT:=zh hrt;clear hrt;obtain ⟨kn,hkn⟩:∃x,x=kof r kk:=⟨_,rfl⟩;have HKN:=zh hkn;rw [←hkn] at hku;clear hkn
      by_cases h0:kn>0
      ·rw [if_pos h0] at hku;have d0:(0:Int)<(kn:Int):=by omega
       have d1:decide (0<kn)=true:=by simp [h0]
       have l_kb:=HKBwr.1.lt;obtain ⟨l_c,l_mf,l_ms,l_mn⟩:=HCwr.1.lt
       go_wp2_with fail
       refine An (fun W=>Ac [] wr W∧W.heap[wr.heap.size]? =some (.cells #[.complex .f64 u.re u.im,.int .i64 u.of.1,.string u.of.2,.bool u.array,.int .i64 u.param.1,.string u.param.2,.bool false,.bool false] 106 (0,0))) ⟨jg,jb⟩ ?_;rintro w71 ⟨Kw71,cw71_U⟩;have ⟨n_c_U,n_U_c⟩:=Ai l_c;have ⟨n_mf_U,n_U_mf⟩:=Ai l_mf;have ⟨n_ms_U,n_U_ms⟩:=Ai l_ms;have ⟨n_mn_U,n_U_mn⟩:=Ai l_mn;have ⟨n_kb_U,n_U_kb⟩:=Ai l_kb;have o_U:w.heap.size≤wr.heap.size:=HSwr.1.size;have off_U:Fu K T (wr.heap.size):=Ao HCwr.1 (Nat.le_refl _);have o0_U:K.w0.heap.size≤wr.heap.size:=Nat.le_trans HCwr.1.keep.size (Nat.le_refl _);have HCw71:=zh (HCwr.1.kp0 Kw71);have HSw71:=zh (HSwr.1.loc Kw71 qg);have HKw71:=zh (HKwr.1.trans Kw71 qg);have HKkbw71:=zh (HKBwr.1.keep Kw71 qg);have Rw71_U:=zh cw71_U;clear Kw71 cw71_U l_c l_mf l_ms l_mn l_kb HCwr HSwr HKwr HKBwr;refine (El HCw71.1 HRT.1).mono ?_;rintro r e72 ⟨rfl,hk⟩;have Re72_U:=zh (hk.at Rw71_U.1 qg);have HCe72:=zh (HCw71.1.kp0 hk);have HSe72:=zh (HSw71.1.loc hk qg);have HKe72:=zh (HKw71.1.trans hk qg);have HKkbe72:=zh (HKkbw71.1.keep hk qg);clear hk Rw71_U HCw71 HSw71 HKw71 HKkbw71;have l_kb:=HKkbe72.1.lt;obtain ⟨l_c,l_mf,l_ms,l_mn⟩:=HCe72.1.lt;have l_U:=Ad Re72_U.1;have hlk2:=HKkbe72.1.look r (n:=kn) HKN.1
       go_wp2_with fail
       go_roundg f
       case measure=>omega
       exact ⟨k+1,by first|rfl|(simp;done)|(simp;omega),by omega,by omega,_,hku,HKkbe72.1,HCe72.1,HKe72.1⟩
      rw [if_neg h0] at hku;have hz:kn=0:=by omega
      have d0:decide (0<kn)=false:=by simp [hz]
      cases harr:u.array with
      |true=>
       rw [harr,if_pos rfl] at hku;have HOF:Hd (∀x,(if x=r then 2 else kof x kk)=kof x ((r,2)::kk)):=zh (fun x=>by rw [kof];by_cases h:x=r<;>simp [h,Hy]);have l_kb:=HKBwr.1.lt;obtain ⟨l_c,l_mf,l_ms,l_mn⟩:=HCwr.1.lt
       go_wp2_with fail
       refine An (fun W=>Ac [] wr W∧W.heap[wr.heap.size]? =some (.cells #[.complex .f64 u.re u.im,.int .i64 u.of.1,.string u.of.2,.bool true,.int .i64 u.param.1,.string u.param.2,.bool false,.bool false] 106 (0,0))) ⟨jg,jb⟩ ?_;rintro w71 ⟨Kw71,cw71_U⟩;have ⟨n_c_U,n_U_c⟩:=Ai l_c;have ⟨n_mf_U,n_U_mf⟩:=Ai l_mf;have ⟨n_ms_U,n_U_ms⟩:=Ai l_ms;have ⟨n_mn_U,n_U_mn⟩:=Ai l_mn;have ⟨n_kb_U,n_U_kb⟩:=Ai l_kb;have o_U:w.heap.size≤wr.heap.size:=HSwr.1.size;have off_U:Fu K T (wr.heap.size):=Ao HCwr.1 (Nat.le_refl _);have o0_U:K.w0.heap.size≤wr.heap.size:=Nat.le_trans HCwr.1.keep.size (Nat.le_refl _);have HCw71:=zh (HCwr.1.kp0 Kw71);have HSw71:=zh (HSwr.1.loc Kw71 qg);have HKw71:=zh (HKwr.1.trans Kw71 qg);have HKkbw71:=zh (HKBwr.1.keep Kw71 qg);have Rw71_U:=zh cw71_U;clear Kw71 cw71_U l_c l_mf l_ms l_mn l_kb HCwr HSwr HKwr HKBwr;refine (El HCw71.1 HRT.1).mono ?_;rintro r e72 ⟨rfl,hk⟩;have Re72_U:=zh (hk.at Rw71_U.1 qg);have HCe72:=zh (HCw71.1.kp0 hk);have HSe72:=zh (HSw71.1.loc hk qg);have HKe72:=zh (HKw71.1.trans hk qg);have HKkbe72:=zh (HKkbw71.1.keep hk qg);clear hk Rw71_U HCw71 HSw71 HKw71 HKkbw71;have l_kb:=HKkbe72.1.lt;obtain ⟨l_c,l_mf,l_ms,l_mn⟩:=HCe72.1.lt;obtain ⟨l_U,xU⟩:=Rh Re72_U.1;have hlk2:=HKkbe72.1.look r (n:=kn) HKN.1
       go_wp2_with fail
       clear l_c l_U xU l_mf l_ms l_mn l_kb;refine (El HCe72.1 HRT.1).mono ?_;rintro r e73 ⟨rfl,hk⟩;have Re73_U:=zh (hk.at Re72_U.1 qg);have HCe73:=zh (HCe72.1.kp0 hk);have HSe73:=zh (HSe72.1.loc hk qg);have HKe73:=zh (HKe72.1.trans hk qg);have HKkbe73:=zh (HKkbe72.1.keep hk qg);clear hk Re72_U HCe72 HSe72 HKe72 HKkbe72;have l_kb:=HKkbe73.1.lt;obtain ⟨l_c,l_mf,l_ms,l_mn⟩:=HCe73.1.lt;have l_U:=Ad Re73_U.1;obtain ⟨es,ek,hes,hes2⟩:=HKkbe73.1;have HEB:=zh hes;have HES:=zh hes2;clear hes hes2;have hup:=Vk HEB.1 r 2
       go_wp2_with fail
       go_roundg f
       case measure=>omega
       refine Ch (fun W=>Ac [(w.heap.size)] e73 W∧W.heap[(w.heap.size)]? =some (.map (Cm Cn (Cw r (.int .i64 2) ek es).1) (Cw r (.int .i64 2) ek es).2)) ⟨jg,(zc HEB.1 l_kb)⟩ ?_;exact qee
      |false=>
       rw [harr,if_neg qg] at hku;have HOF:Hd (∀x,(if x=r then 1 else kof x kk)=kof x ((r,1)::kk)):=zh (fun x=>by rw [kof];by_cases h:x=r<;>simp [h,Hy]);have l_kb:=HKBwr.1.lt;obtain ⟨l_c,l_mf,l_ms,l_mn⟩:=HCwr.1.lt
       go_wp2_with fail
       refine An (fun W=>Ac [] wr W∧W.heap[wr.heap.size]? =some (.cells #[.complex .f64 u.re u.im,.int .i64 u.of.1,.string u.of.2,.bool false,.int .i64 u.param.1,.string u.param.2,.bool false,.bool false] 106 (0,0))) ⟨jg,jb⟩ ?_;rintro w71 ⟨Kw71,cw71_U⟩;have ⟨n_c_U,n_U_c⟩:=Ai l_c;have ⟨n_mf_U,n_U_mf⟩:=Ai l_mf;have ⟨n_ms_U,n_U_ms⟩:=Ai l_ms;have ⟨n_mn_U,n_U_mn⟩:=Ai l_mn;have ⟨n_kb_U,n_U_kb⟩:=Ai l_kb;have o_U:w.heap.size≤wr.heap.size:=HSwr.1.size;have off_U:Fu K T (wr.heap.size):=Ao HCwr.1 (Nat.le_refl _);have o0_U:K.w0.heap.size≤wr.heap.size:=Nat.le_trans HCwr.1.keep.size (Nat.le_refl _);have HCw71:=zh (HCwr.1.kp0 Kw71);have HSw71:=zh (HSwr.1.loc Kw71 qg);have HKw71:=zh (HKwr.1.trans Kw71 qg);have HKkbw71:=zh (HKBwr.1.keep Kw71 qg);have Rw71_U:=zh cw71_U;clear Kw71 cw71_U l_c l_mf l_ms l_mn l_kb HCwr HSwr HKwr HKBwr;refine (El HCw71.1 HRT.1).mono ?_;rintro r e72 ⟨rfl,hk⟩;have Re72_U:=zh (hk.at Rw71_U.1 qg);have HCe72:=zh (HCw71.1.kp0 hk);have HSe72:=zh (HSw71.1.loc hk qg);have HKe72:=zh (HKw71.1.trans hk qg);have HKkbe72:=zh (HKkbw71.1.keep hk qg);clear hk Rw71_U HCw71 HSw71 HKw71 HKkbw71;have l_kb:=HKkbe72.1.lt;obtain ⟨l_c,l_mf,l_ms,l_mn⟩:=HCe72.1.lt;obtain ⟨l_U,xU⟩:=Rh Re72_U.1;have hlk2:=HKkbe72.1.look r (n:=kn) HKN.1
       go_wp2_with fail
       clear l_c l_U xU l_mf l_ms l_mn l_kb;refine (El HCe72.1 HRT.1).mono ?_;rintro r e73 ⟨rfl,hk⟩;have Re73_U:=zh (hk.at Re72_U.1 qg);have HCe73:=zh (HCe72.1.kp0 hk);have HSe73:=zh (HSe72.1.loc hk qg);have HKe73:=zh (HKe72.1.trans hk qg);have HKkbe73:=zh (HKkbe72.1.keep hk qg);clear hk Re72_U HCe72 HSe72 HKe72 HKkbe72;have l_kb:=HKkbe73.1.lt;obtain ⟨l_c,l_mf,l_ms,l_mn⟩:=HCe73.1.lt;have l_U:=Ad Re73_U.1;obtain ⟨es,ek,hes,hes2⟩:=HKkbe73.1;have HEB:=zh hes;have HES:=zh hes2;clear hes hes2;have hup:=Vk HEB.1 r 1
       go_wp2_with fail
       go_roundg f
       case measure=>omega
       refine Ch (fun W=>Ac [(w.heap.size)] e73 W∧W.heap[(w.heap.size)]? =some (.map (Cm Cn (Cw r (.int .i64 1) ek es).1) (Cw r (.int .i64 1) ek es).2)) ⟨jg,(zc HEB.1 l_kb)⟩ ?_;exact qee
  have hke:k=st.uses.length:=by omega
  rw [hke,List.drop_length,Nj] at hku;obtain rfl:kk=kf:=by simpa using hku
  clear hku hke;have l_kb:=HKBwr.1.lt;obtain ⟨l_c,l_mf,l_ms,l_mn⟩:=HCwr.1.lt
  go_wp2_with fail
  refine Ap (v:= .map (some w.heap.size)) (fun W=>Ac [] wr W) jg (fun w71 hW=> ?_) rfl (fun w71 hW=> ?_)
  ·have Kw71:Ac [] wr w71:=hW;exact Le
  have Kw71:Ac [] wr w71:=hW;have HCw71:=zh (HCwr.1.kp0 Kw71);have HSw71:=zh (HSwr.1.loc Kw71 qg);have HKw71:=zh (HKwr.1.trans Kw71 qg);have HKkbw71:=zh (HKBwr.1.keep Kw71 qg);clear Kw71 l_c l_mf l_ms l_mn l_kb HCwr HSwr HKwr HKBwr;exact ⟨_,rfl,Nat.le_refl _,HKkbw71.1,HKw71.1⟩
 have hent:=hrn.entry;have lwn:wo.heap.size=wn.heap.size:=hszn.symm;have HCwn:=zh (CK.news HC0.1 HCwo.1 hkn (by simp;exact hw1));have HKBwn:=zh (HKBwo.1.keep hkn (by simp [n_kb_it]));have HKwn:=zh (HKwo.1.trans hkn (by simp;exact hw1));have HRwn:=zh hrn;have HSwn:=zh ((Ak.refl K T w).loc HKwn.1 qg);have HRO1:=HRO.1 t ht;clear hrs hrn hkn lwn hszn HCwo HKBwo HKwo HSwo;have n_mn_it:K.mn≠w1.heap.size:=fun e=>by have:=HC0.1.lt;omega
 cases gk with
 |zero=>omega
 | succ m=>
  by_cases h0:t.1=0
  ·have d0:((t.1:Int)==0)=true:=by simp [h0]
   have d1:(t.1==0)=true:=by simp [h0]
   cases hsp:Am t.2 with
   | true=>
    obtain ⟨r,hrr⟩:∃r,r=Pa st t:=⟨_,rfl⟩;have hgs:RQ t=true:=by simp [RQ,h0,hsp]
    have HRT:Hd (Dl st t=some r):=zh (by rw [hrr];exact HRO1 hgs)
    have HOF:Hd (∀x,(if x=r then 1 else if p.any (AI st x)=true then 1 else 0)=if (p++ [t]).any (AI st x)=true then 1 else 0):=zh (fun x=>by
     have e:AI st x t=Oq x r:=by unfold AI;rw [hgs,←hrr];rfl
     simp only [List.any_append,List.any_cons,List.any_nil,Bool.or_false,e]
     by_cases h:x=r
     ·simp [h,Hy.2 rfl]
     have:Oq x r=false:=by cases h2:Oq x r with|false=>rfl|true=>exact absurd (Hy.1 h2) h
     rw [if_neg h,this,Bool.or_false])
    clear hrr hgs HRO1 h0;have l_kb:=HKBwn.1.lt;obtain ⟨l_c,l_mf,l_ms,l_mn⟩:=HCwn.1.lt
    go_wp2_with fail
    refine ZX ?_;rintro w51 ⟨Kw51,cw51_B⟩;have ⟨n_c_B,n_B_c⟩:=Ai l_c;have ⟨n_mf_B,n_B_mf⟩:=Ai l_mf;have ⟨n_ms_B,n_B_ms⟩:=Ai l_ms;have ⟨n_mn_B,n_B_mn⟩:=Ai l_mn;have ⟨n_kb_B,n_B_kb⟩:=Ai l_kb;have o_B:w.heap.size≤wn.heap.size:=HSwn.1.size;have off_B:Fu K T (wn.heap.size):=Ao HCwn.1 (Nat.le_refl _);have o0_B:K.w0.heap.size≤wn.heap.size:=Nat.le_trans HCwn.1.keep.size (Nat.le_refl _);have HCw51:=zh (HCwn.1.kp0 Kw51);have HSw51:=zh (HSwn.1.loc Kw51 qg);have HKw51:=zh (HKwn.1.trans Kw51 qg);have HKkbw51:=zh (HKBwn.1.keep Kw51 qg);have HRw51:=zh (HRwn.1.keep Kw51 qg qg);have Rw51_B:=zh cw51_B;clear Kw51 cw51_B l_c l_mf l_ms l_mn l_kb HCwn HSwn HKwn HKBwn HRwn;refine (Dk t.2 _).mono ?_;rintro r w' ⟨rfl,hw'⟩;rw [hw'];clear hw';have l_kb:=HKkbw51.1.lt;obtain ⟨l_c,l_mf,l_ms,l_mn⟩:=HCw51.1.lt;obtain ⟨l_B,xB⟩:=Ki Rw51_B.1
    go_wp2_with fail
    clear l_c l_B xB l_mf l_ms l_mn l_kb;refine (El HCw51.1 HRT.1).mono ?_;rintro r e52 ⟨rfl,hk⟩;have Re52_B:=zh (hk.at Rw51_B.1 qg);have HCe52:=zh (HCw51.1.kp0 hk);have HSe52:=zh (HSw51.1.loc hk qg);have HKe52:=zh (HKw51.1.trans hk qg);have HKkbe52:=zh (HKkbw51.1.keep hk qg);have HRe52:=zh (HRw51.1.keep hk qg qg);clear hk Rw51_B HCw51 HSw51 HKw51 HKkbw51 HRw51;have l_kb:=HKkbe52.1.lt;obtain ⟨l_c,l_mf,l_ms,l_mn⟩:=HCe52.1.lt;have l_B:=Ad Re52_B.1;obtain ⟨es,ek,hes,hes2⟩:=HKkbe52.1;have HEB:=zh hes;have HES:=zh hes2;clear hes hes2;have hup:=Vk HEB.1 r 1
    go_wp2_with fail
    go_roundg m
    case measure=>omega
    refine Ch (fun W=>Ac [(w.heap.size)] e52 W∧W.heap[(w.heap.size)]? =some (.map (Cm Cn (Cw r (.int .i64 1) ek es).1) (Cw r (.int .i64 1) ek es).2)) ⟨jg,(zc HEB.1 l_kb)⟩ ?_;rintro w53 ⟨Kw53,cw53_kb⟩;have Rw53_B:=zh (Kw53.at Re52_B.1 (by simp [n_B_kb]));have HCw53:=zh (HCe52.1.kp Kw53 (by simp [o0_kb]) (by simp [n_c_kb]) (by simp [n_mf_kb]) (by simp [n_ms_kb]) (by simp [n_mn_kb]) (by simp [(off_kb).2.2.2]));have HSw53:=zh (HSe52.1.loc Kw53 jbb);have HKw53:=zh (HKe52.1.trans Kw53 jbb);have HRw53:=zh (HRe52.1.keep Kw53 (by simp [n_mn_kb]) (by simp [n_it_kb]));have Rw53_kb:=zh cw53_kb;clear Kw53 cw53_kb l_c l_B l_mf l_ms l_mn l_kb Re52_B HCe52 HSe52 HKe52 HKkbe52 HRe52;exact ⟨p++ [t],n2,HRw53.1,by omega,(Ex.put HES.1 Rw53_kb.1).of HOF.1,HCw53.1,HKw53.1⟩
   | false=>
    have HOF:Hd (∀x,(if p.any (AI st x)=true then 1 else 0)=if (p++ [t]).any (AI st x)=true then 1 else 0):=zh (fun x=>by
     have e:AI st x t=false:=by unfold AI RQ;rw [hsp];simp
     simp only [List.any_append,List.any_cons,List.any_nil,Bool.or_false,e])
    clear HRO1 h0;have l_kb:=HKBwn.1.lt;obtain ⟨l_c,l_mf,l_ms,l_mn⟩:=HCwn.1.lt
    go_wp2_with fail
    refine ZX ?_;rintro w51 ⟨Kw51,cw51_B⟩;have ⟨n_c_B,n_B_c⟩:=Ai l_c;have ⟨n_mf_B,n_B_mf⟩:=Ai l_mf;have ⟨n_ms_B,n_B_ms⟩:=Ai l_ms;have ⟨n_mn_B,n_B_mn⟩:=Ai l_mn;have ⟨n_kb_B,n_B_kb⟩:=Ai l_kb;have o_B:w.heap.size≤wn.heap.size:=HSwn.1.size;have off_B:Fu K T (wn.heap.size):=Ao HCwn.1 (Nat.le_refl _);have o0_B:K.w0.heap.size≤wn.heap.size:=Nat.le_trans HCwn.1.keep.size (Nat.le_refl _);have HCw51:=zh (HCwn.1.kp0 Kw51);have HSw51:=zh (HSwn.1.loc Kw51 qg);have HKw51:=zh (HKwn.1.trans Kw51 qg);have HKkbw51:=zh (HKBwn.1.keep Kw51 qg);have HRw51:=zh (HRwn.1.keep Kw51 qg qg);have Rw51_B:=zh cw51_B;clear Kw51 cw51_B l_c l_mf l_ms l_mn l_kb HCwn HSwn HKwn HKBwn HRwn;refine (Dk t.2 _).mono ?_;rintro r w' ⟨rfl,hw'⟩;rw [hw'];clear hw';have l_kb:=HKkbw51.1.lt;obtain ⟨l_c,l_mf,l_ms,l_mn⟩:=HCw51.1.lt;have l_B:=Ad Rw51_B.1
    go_wp2_with fail
    go_roundg m
    case measure=>omega
    exact qtc
  have d0:((t.1:Int)==0)=false:=by simp;omega
  have d1:(t.1==0)=false:=by simp [h0]
  have HOF:Hd (∀x,(if p.any (AI st x)=true then 1 else 0)=if (p++ [t]).any (AI st x)=true then 1 else 0):=zh (fun x=>by
   have e:AI st x t=false:=by unfold AI RQ;simp [h0]
   simp only [List.any_append,List.any_cons,List.any_nil,Bool.or_false,e])
  clear HRO1 h0;have l_kb:=HKBwn.1.lt;obtain ⟨l_c,l_mf,l_ms,l_mn⟩:=HCwn.1.lt
  go_wp2_with fail
  go_roundg m
  case measure=>omega
  refine zuc ?_;rintro w51 ⟨Kw51,cw51_B⟩;have ⟨n_c_B,n_B_c⟩:=Ai l_c;have ⟨n_mf_B,n_B_mf⟩:=Ai l_mf;have ⟨n_ms_B,n_B_ms⟩:=Ai l_ms;have ⟨n_mn_B,n_B_mn⟩:=Ai l_mn;have ⟨n_kb_B,n_B_kb⟩:=Ai l_kb;have o_B:w.heap.size≤wn.heap.size:=HSwn.1.size;have off_B:Fu K T (wn.heap.size):=Ao HCwn.1 (Nat.le_refl _);have o0_B:K.w0.heap.size≤wn.heap.size:=Nat.le_trans HCwn.1.keep.size (Nat.le_refl _);have HCw51:=zh (HCwn.1.kp0 Kw51);have HSw51:=zh (HSwn.1.loc Kw51 qg);have HKw51:=zh (HKwn.1.trans Kw51 qg);have HKkbw51:=zh (HKBwn.1.keep Kw51 qg);have HRw51:=zh (HRwn.1.keep Kw51 qg qg);have Rw51_B:=zh cw51_B;clear Kw51 cw51_B l_c l_mf l_ms l_mn l_kb HCwn HSwn HKwn HKBwn HRwn;exact qtc
theorem jre{p:Prop}(h:p:=by
 have:=Qj (P:=Tryz.prog) (XD Tryz.underlying9) Tryz.underlying65 (z:= .int .i64 0) (w:=W) (by simp [go_sem]) hb s;rw [h] at this;exact this):p:=h
theorem JB{K:Ba}(hK:Dp K){W:World}(hk:Ac [] K.w0 W){i:Nat}(hi:i<K.g.funcs.length):
  ∃g o pa pc fm na nc,K.fa=some ⟨g,o,none⟩∧W.cell? ⟨g,o+i*8,none⟩=some (.string K.g.funcs[i].name)∧W.cell? ⟨g,o+i*8+1,none⟩=some (.slice pa K.g.funcs[i].params.length pc)∧W.cell? ⟨g,o+i*8+2,none⟩=some (.int .i64 K.g.funcs[i].body.kind)∧W.cell? ⟨g,o+i*8+3,none⟩=some (.string K.g.funcs[i].body.name)∧W.cell? ⟨g,o+i*8+4,none⟩=some (.float .f64 fm)∧
   W.cell? ⟨g,o+i*8+5,none⟩=some (.slice na K.g.funcs[i].body.kids.length nc)∧W.cell? ⟨g,o+i*8+6,none⟩=some (.complex .f64 K.g.funcs[i].body.re K.g.funcs[i].body.im)∧W.cell? ⟨g,o+i*8+7,none⟩=some (.complex .f64 K.g.funcs[i].re K.g.funcs[i].im)∧Aq Ef K.w0 (fun _=>True) K.g.funcs[i].params (.slice pa K.g.funcs[i].params.length pc)∧K.g.funcs[i].params.length≤pc:=by
 obtain ⟨g,o,cap,c,hv,-,hg,⟨pa,pc,b0,b1,b2,b3,b4,rfl,hp,hn⟩,hc⟩:=hK.funcs.get Es hi;obtain ⟨fm,na,nc,hvb,-⟩:=hn.kids;simp only [Value.agg.injEq,Array.mk.injEq,List.cons.injEq,and_true] at hvb;obtain ⟨rfl,rfl,rfl,rfl,rfl⟩:=hvb
 have hc':∀j u,[.string K.g.funcs[i].name,.slice pa K.g.funcs[i].params.length pc,.int .i64 K.g.funcs[i].body.kind,.string K.g.funcs[i].body.name,.float .f64 fm,.slice na K.g.funcs[i].body.kids.length nc,.complex .f64 K.g.funcs[i].body.re K.g.funcs[i].body.im,.complex .f64 K.g.funcs[i].re K.g.funcs[i].im][j]? =some u→W.cell? ⟨g,o+i*8+j,none⟩=some u:=fun j u hj=>by
  rw [World.cell?_of_block (w:=K.w0) (a:=⟨g,o+i*8+j,none⟩) (hk.block g hg qg),Nat.add_assoc];exact hc j u hj
 have hfa:K.fa=some ⟨g,o,none⟩:=by injection hv
 exact ⟨g,o,pa,pc,fm,na,nc,hfa,hc' 0 _ rfl,hc' 1 _ rfl,hc' 2 _ rfl,hc' 3 _ rfl,hc' 4 _ rfl,hc' 5 _ rfl,hc' 6 _ rfl,hc' 7 _ rfl,hp,hp.cap⟩
theorem Np(s:ByteArray)(f:Az):∀(l:List Az) (i:Nat),Cb s (l++ [f]) i=if Cb s l i=0 then (if same s f.name then i+l.length+1 else 0) else Cb s l i
 | [],i=>by simp [Cb]
 | x::l,i=>by
   rw [List.cons_append]
   by_cases h:same s x.name=true
   ·have a1:Cb s (x::l) i=i+1:=by rw [Cb,if_pos h]
    have a2:Cb s (x::(l++ [f])) i=i+1:=by rw [Cb,if_pos h]
    rw [a1,a2];simp
   have a1:Cb s (x::l) i=Cb s l (i+1):=by rw [Cb,if_neg h]
   have a2:Cb s (x::(l++ [f])) i=Cb s (l++ [f]) (i+1):=by rw [Cb,if_neg h]
   rw [a1,a2,Np s f l (i+1)];have e:i+1+l.length+1=i+(x::l).length+1:=by simp;omega
   rw [e]
def Ue(es:List (Ls ByteArray))(l:List Az):Prop:=∀s,Ma s es=if Cb s l 0=0 then none else some (.int .i64 (Cb s l 0:Nat))
theorem Ue.put{es:List (Ls ByteArray)}{l:List Az}{f:Az}{k:Nat}{v:Int}(h:Ue es l)(hf:Cb f.name l 0=0)(hv:v=(l.length+1:Nat)):Ue (Cw f.name (.int .i64 v) k es).1 (l++ [f]):=by
 intro s;rw [Zd,Np,h s]
 by_cases hs:s=f.name
 ·subst hs;rw [if_pos rfl,if_pos hf,if_pos (Cv.2 rfl),hv];simp
 have:¬same s f.name=true:=fun h=>hs (Cv.1 h)
 rw [if_neg hs,if_neg this]
 by_cases h0:Cb s l 0=0<;>simp [h0]
theorem Ue.skip{es:List (Ls ByteArray)}{l:List Az}{f:Az}(h:Ue es l)(hf:Cb f.name l 0≠0):Ue es (l++ [f]):=by
 intro s;rw [Np,h s]
 by_cases hs:same s f.name=true
 ·rw [Cv.1 hs,if_neg hf,if_neg hf,if_neg hf]
 rw [if_neg hs]
 by_cases h0:Cb s l 0=0<;>simp [h0]
theorem QN{K:Ba}(hK:Dp K){w W:World}(h0:Ac [] K.w0 w)(hk:Ac [K.mf] w W)(hc:w.heap[K.c]? =some (XS K IR none 0))(hms:w.heap[K.ms]? =some (.map #[] 0))(hmn:w.heap[K.mn]? =some (.map #[] 0)){es:List (Ls ByteArray)}{k:Nat}(hmf:W.heap[K.mf]? =some (.map (Cm (fun s=>Value.string s) es) k))(he:Ue es K.g.funcs):∃T ua uc,CK K T ua uc IR W:=by
 refine ⟨fun _=>False,none,0,h0.trans hk (by simp;exact hK.mf),hk.at hc (by simp [hK.ne.1]),⟨es,k,hmf,fun s=> ?_⟩,⟨[],0,hk.at hms (by simp [Ne.symm hK.ne.2.2.2.1]),rfl⟩,⟨[],0,hk.at hmn (by simp [Ne.symm hK.ne.2.2.2.2.1]),rfl,by simp,by simp⟩,Ax.nil,fun _ h=>h.elim,fun _ h=>h.elim,⟨id,id,id,id⟩,Nat.zero_le _,by decide,by decide⟩;rw [he s];unfold flook
 by_cases h:Cb s K.g.funcs 0=0<;>simp [h]
def Aaq(K:Ba)(w:World)(g:Nat)(j:Value)(W:World):Prop:=
 ∃k:Nat,j= .int .i64 k∧k≤K.g.funcs.length∧g+k=K.g.funcs.length+1∧Ac [K.mf] w W∧∃es ek,W.heap[K.mf]? =some (.map (Cm (fun s=>Value.string s) es) ek)∧Ue es (K.g.funcs.take k)
theorem UE{b:Nat}{W:World}{es:List (Ls ByteArray)}{k:Nat}{s:ByteArray}(hb:W.heap[b]? =some (.map (Cm (fun s=>Value.string s) es) k))(h:Ma s es=none):(Instr.lookup 65 (.map (some b)) (.string s) true).run Tryz.prog W= .ok (.tuple #[.int .i64 0,.bool false]) W:=by
 exact jre
theorem UD{b:Nat}{W:World}{es:List (Ls ByteArray)}{k:Nat}{s:ByteArray}{v:Value}(hb:W.heap[b]? =some (.map (Cm (fun s=>Value.string s) es) k))(h:Ma s es=some v):(Instr.lookup 65 (.map (some b)) (.string s) true).run Tryz.prog W= .ok (.tuple #[v,.bool true]) W:=by
 exact jre
theorem TA{b:Nat}{W:World}{es:List (Ls ByteArray)}{k:Nat}(hb:W.heap[b]? =some (.map (Cm (fun s=>Value.string s) es) k))(s:ByteArray)(v:Value):
  (Instr.mapUpdate 65 (.map (some b)) (.string s) v).run Tryz.prog W= .ok () (mset W b (.map (Cm (fun s=>Value.string s) (Cw s v k es).1) (Cw s v k es).2)):=
 Qi (P:=Tryz.prog) (XD Tryz.underlying9) Tryz.underlying65 hb s v
def Aap(K:Ba)(T:Nat→Prop)(ua:Option Addr)(uc:Nat)(st':NS)(w:World)(g:Nat)(j:Value)(W:World):Prop:=
 ∃k:Nat,j= .int .i64 k∧k≤K.g.funcs.length∧g+k=K.g.funcs.length+1∧∃st,Er K.g k (K.g.funcs.drop k) st=st'∧CK K T ua uc st W∧Ak K T T w W
def Aao(K:Ba)(T:Nat→Prop)(ua:Option Addr)(uc:Nat)(m:Nat)(f:Az)(st':NS)(w:World)(B:Nat)(ob:Obj)(g:Nat)(j:Value)(W:World):Prop:=
 ∃k:Nat,j= .int .i64 k∧k≤f.params.length∧g+k=f.params.length+1∧∃st,Dx K.g m f (f.params.take k) (f.params.drop k) st=st'∧CK K T ua uc st W∧Ak K T T w W∧W.heap[B]? =some ob
def Aan(K:Ba)(T:Nat→Prop)(ua:Option Addr)(uc:Nat)(f:Az)(s:ByteArray)(l:List ByteArray)(st':NS)(w:World)(B:Nat)(ob:Obj)(g:Nat)(j:Value)(W:World):Prop:=
 ∃k:Nat,j= .int .i64 k∧k≤l.length∧g+k=l.length+1∧∃st,Jv f s (l.drop k) st=st'∧CK K T ua uc st W∧Ak K T T w W∧W.heap[B]? =some ob
theorem Gz{K:Ba}(hK:Dp K){T:Nat→Prop}{ua:Option Addr}{uc:Nat}{st:NS}{w:World}(h:CK K T ua uc st w)(re im:Nat)(e:Int):Calls Tryz.prog 42 #[.pointer (some ⟨K.c,0,none⟩),.complex .f64 re im,.int .i64 e] w fun r w'=>r= .returned (.tuple #[])∧CK K T ua uc (Al st re im e) w'∧Ak K T T w w':=by
 unfold Al
 by_cases h0:st.e=0
 ·rw [if_pos h0];exact JF hK h re im e YI
 rw [if_neg h0];exact JG hK h re im e YI
theorem Pi{P:Program}{ops:Array Oper}{o:Oper}{a:Act}{w:World}{K:Act→World→Prop}{Q:Exit→Act→World→Prop}{E:Prop}(hw:Region.wanted o (yielded ops a.tmps)=true){f:FuncId}{vals:Array Value}(c:Call)(_ho:o.op= .call c)(hrun:(execOp a.eval o).run P w= .ok (.enter f vals) w){R:Value→World→Prop}(hc:Calls P f vals w fun e w'=>∃v,e= .returned v∧R v w')(hK:∀v w',R v w'→K (a.put o.dst v) w'):if Region.wanted o (yielded ops a.tmps)=true then Oper.wp P o a w K Q else E:=by
 rw [if_pos hw];unfold Oper.wp;rw [hrun,Oper.upon_enter];exact zkb
theorem Ex.step{K:Ba}{T T':Nat→Prop}{w w':World}{b:Nat}{f:Ae→Nat}(h:Ex w b f)(hs:Ak K T T' w w')(ho:Fu K T b):Ex w' b f:=by
 obtain ⟨es,k,h1,h2⟩:=h;exact ⟨es,k,hs.at h1 ho,h2⟩
theorem Ks(st:NS)(re im:Nat)(e:Int):(Al st re im e).uses=st.uses:=by unfold Al;split<;>rfl
def Abo(K:Ba)(T:Nat→Prop)(ua:Option Addr)(uc n:Nat)(kf:Cs)(st':NS)(w:World)(kb:Nat)(g:Nat)(j:Value)(W:World):Prop:=
 ∃k:Nat,j= .int .i64 k∧k≤n∧g+k=n+1∧∃st,st.uses.length=n∧Gt kf (st.uses.drop k) st=some st'∧Ex W kb (fun x=>kof x kf)∧CK K T ua uc st W∧Ak K T T w W
theorem GQ{K:Ba}(hK:Dp K){T:Nat→Prop}{ua:Option Addr}{uc:Nat}{st:NS}{w:World}(h:CK K T ua uc st w){kf:Cs}{st':NS}(hkf:Mb st=some kf)(hul:st.uses.length≤1000000)(har:Gt kf st.uses st=some st'):Calls Tryz.prog 26 #[.pointer (some ⟨K.c,0,none⟩)] w fun r w'=>∃T' ua' uc',r= .returned (.tuple #[])∧CK K T' ua' uc' (st') w'∧Ak K T T' w w':=by
 have HC0:=zh h;have HS0:=zh (Ak.refl K T w);have HK0:=zh (Ac.refl [] w);have HKF:=zh hkf;have HAR:=zh har;clear h hkf har
 go_enter Tryz.func26,Tryz.ntmps26
 obtain ⟨l_c,l_mf,l_ms,l_mn⟩:=HC0.1.lt
 go_wp2_with fail
 clear l_c l_mf l_ms l_mn;refine (Ze hK HC0.1 HKF.1 hul).mono ?_;rintro r e1 ⟨kb,rfl,hle,hkb,hk⟩;have HCe1:=zh (HC0.1.kp0 hk);have HSe1:=zh (HS0.1.loc hk qg);have HKe1:=zh (HK0.1.trans hk qg);have HKB1:=zh hkb;have off_kb:=Ao HC0.1 hle;clear hkb;clear hk HC0 HS0 HK0;obtain ⟨l_c,xc⟩:=Cp HCe1.1.row;obtain ⟨-,l_mf,l_ms,l_mn⟩:=HCe1.1.lt
 go_wp2_with fail
 clear l_c xc l_mf l_ms l_mn;obtain ⟨n,hn⟩:∃x,x=st.uses.length:=⟨_,rfl⟩;rw [←hn]
 go_loopg [12] (n+1) (fun g j wr=>Abo K T ua uc n kf st' w kb g j wr)
 case atStart=>exact ⟨0,rfl,Nat.zero_le _,rfl,st,hn.symm,HAR.1,HKB1.1,HCe1.1,HSe1.1⟩
 have hnl:n≤1000000:=hn▸hul;clear hn hul;obtain ⟨k,rfl,hk1,hk2,st1,hl,har,hkb,hc,hs⟩:=hrel;have HCr:=zh hc;have HKBr:=zh hkb;have HSr:=zh hs;have HL:=zh hl;clear hc hkb hs
 by_cases hlt:k<n
 ·obtain ⟨gu,hgu,q0,q1,q2,q3,q4,q5,q6,q7⟩:=CK.use HCr.1 (i:=k) (by rw [HL.1];exact hlt);subst hgu;have lgu:gu<wr.heap.size:=Cd q0;have hlt2:k<st1.uses.length:=by rw [HL.1];exact hlt
  rw [List.drop_eq_getElem_cons hlt2,Gt] at har;generalize st1.uses[k]=u at*
  clear hl hlt2
  cases gk with
  |zero=>omega
  | succ f=>
   cases hbad:u.bad with
   |true=>
    rw [hbad,if_pos rfl] at har;simp only [Option.bind_eq_bind,Option.bind_some,if_true] at har;have l_kb:=HKBr.1.lt;obtain ⟨l_c,l_mf,l_ms,l_mn⟩:=HCr.1.lt
    go_wp2_with fail
    refine An (fun W=>Ac [] wr W∧W.heap[wr.heap.size]? =some (.cells #[.complex .f64 u.re u.im,.int .i64 u.of.1,.string u.of.2,.bool u.array,.int .i64 u.param.1,.string u.param.2,.bool u.kid,.bool true] 106 (0,0))) ⟨jg,jb⟩ ?_;rintro w51 ⟨Kw51,cw51_U⟩;have ⟨n_c_U,n_U_c⟩:=Ai l_c;have ⟨n_mf_U,n_U_mf⟩:=Ai l_mf;have ⟨n_ms_U,n_U_ms⟩:=Ai l_ms;have ⟨n_mn_U,n_U_mn⟩:=Ai l_mn;have o_U:w.heap.size≤wr.heap.size:=HSr.1.size;have off_U:Fu K T (wr.heap.size):=Ao HCr.1 (Nat.le_refl _);have o0_U:K.w0.heap.size≤wr.heap.size:=Nat.le_trans HCr.1.keep.size (Nat.le_refl _);have HCw51:=zh (HCr.1.kp0 Kw51);have HSw51:=zh (HSr.1.loc Kw51 qg);have HKkbw51:=zh (HKBr.1.keep Kw51 qg);have Rw51_U:=zh cw51_U;clear Kw51 cw51_U l_c l_mf l_ms l_mn l_kb HCr HSr HKBr;refine (Gz hK HCw51.1 u.re u.im 30).mono ?_;rintro r e52 ⟨rfl,hc,hs⟩;have off2_U:=hs.off (Ad Rw51_U.1) off_U;have Re52_U:=zh (hs.at Rw51_U.1 off_U);have off_U':=off2_U;have HCe52:=zh hc;have HSe52:=zh (HSw51.1.trans hs);have HKkbe52:=zh (HKkbw51.1.step hs off_kb);clear Rw51_U off_U HCw51 HSw51 hc hs HKkbw51;have off_U:=off_U';clear off_U' off2_U;have l_kb:=HKkbe52.1.lt;obtain ⟨l_c,l_mf,l_ms,l_mn⟩:=HCe52.1.lt;have l_U:=Ad Re52_U.1
    go_wp2_with fail
    go_roundg f
    case measure=>omega
    exact ⟨k+1,by first|rfl|(simp;done)|(simp;omega),by omega,by omega,(Al st1 u.re u.im 30),by rw [Ks];exact HL.1,by rw [Ks];exact har,HKkbe52.1,HCe52.1,HSe52.1⟩
   | false=>
    rw [hbad,if_neg qg] at har
    cases hkid:u.kid with
    | true=>
     rw [hkid,if_pos rfl] at har;simp only [Option.bind_eq_bind,Option.bind_eq_some_iff] at har;obtain ⟨b,⟨r,hrt,hb⟩,har⟩:=har;obtain rfl:(kof r kf==2)=b:=by simpa using hb
     clear hb;obtain ⟨kn,hkn⟩:∃x,x=kof r kf:=⟨_,rfl⟩;have HKN:=zh hkn;rw [←hkn] at har;clear hkn;have HRT:=zh hrt;clear hrt
     by_cases h2:kn=2
     ·have d2:((kn:Int)==2)=true:=by simp [h2]
      have d3:(kn==2)=true:=by simp [h2]
      rw [d3] at har;have l_kb:=HKBr.1.lt;obtain ⟨l_c,l_mf,l_ms,l_mn⟩:=HCr.1.lt
      go_wp2_with fail
      refine juc ?_;rintro w51 ⟨Kw51,cw51_U⟩;have ⟨n_c_U,n_U_c⟩:=Ai l_c;have ⟨n_mf_U,n_U_mf⟩:=Ai l_mf;have ⟨n_ms_U,n_U_ms⟩:=Ai l_ms;have ⟨n_mn_U,n_U_mn⟩:=Ai l_mn;have o_U:w.heap.size≤wr.heap.size:=HSr.1.size;have off_U:Fu K T (wr.heap.size):=Ao HCr.1 (Nat.le_refl _);have o0_U:K.w0.heap.size≤wr.heap.size:=Nat.le_trans HCr.1.keep.size (Nat.le_refl _);have HCw51:=zh (HCr.1.kp0 Kw51);have HSw51:=zh (HSr.1.loc Kw51 qg);have HKkbw51:=zh (HKBr.1.keep Kw51 qg);have Rw51_U:=zh cw51_U;clear Kw51 cw51_U l_c l_mf l_ms l_mn l_kb HCr HSr HKBr;refine (El HCw51.1 HRT.1).mono ?_;rintro r e52 ⟨rfl,hk⟩;have Re52_U:=zh (hk.at Rw51_U.1 qg);have HCe52:=zh (HCw51.1.kp0 hk);have HSe52:=zh (HSw51.1.loc hk qg);have HKkbe52:=zh (HKkbw51.1.keep hk qg);clear hk Rw51_U HCw51 HSw51 HKkbw51;have l_kb:=HKkbe52.1.lt;obtain ⟨l_c,l_mf,l_ms,l_mn⟩:=HCe52.1.lt;obtain ⟨l_U,xU⟩:=Rh Re52_U.1;have hlk2:=HKkbe52.1.look r (n:=kn) HKN.1
      go_wp2_with fail
      clear l_c l_U xU l_mf l_ms l_mn l_kb;refine (Gz hK HCe52.1 u.re u.im 30).mono ?_;rintro r e53 ⟨rfl,hc,hs⟩;have off2_U:=hs.off (Ad Re52_U.1) off_U;have Re53_U:=zh (hs.at Re52_U.1 off_U);have off_U':=off2_U;have HCe53:=zh hc;have HSe53:=zh (HSe52.1.trans hs);have HKkbe53:=zh (HKkbe52.1.step hs off_kb);clear Re52_U off_U HCe52 HSe52 hc hs HKkbe52;have off_U:=off_U';clear off_U' off2_U;have l_kb:=HKkbe53.1.lt;obtain ⟨l_c,l_mf,l_ms,l_mn⟩:=HCe53.1.lt;have l_U:=Ad Re53_U.1
      go_wp2_with fail
      go_roundg f
      case measure=>omega
      exact quc
     have d2:((kn:Int)==2)=false:=by simp;omega
     have d3:(kn==2)=false:=by simp [h2]
     rw [d3] at har;have l_kb:=HKBr.1.lt;obtain ⟨l_c,l_mf,l_ms,l_mn⟩:=HCr.1.lt
     go_wp2_with fail
     refine juc ?_;rintro w51 ⟨Kw51,cw51_U⟩;have ⟨n_c_U,n_U_c⟩:=Ai l_c;have ⟨n_mf_U,n_U_mf⟩:=Ai l_mf;have ⟨n_ms_U,n_U_ms⟩:=Ai l_ms;have ⟨n_mn_U,n_U_mn⟩:=Ai l_mn;have o_U:w.heap.size≤wr.heap.size:=HSr.1.size;have off_U:Fu K T (wr.heap.size):=Ao HCr.1 (Nat.le_refl _);have o0_U:K.w0.heap.size≤wr.heap.size:=Nat.le_trans HCr.1.keep.size (Nat.le_refl _);have HCw51:=zh (HCr.1.kp0 Kw51);have HSw51:=zh (HSr.1.loc Kw51 qg);have HKkbw51:=zh (HKBr.1.keep Kw51 qg);have Rw51_U:=zh cw51_U;clear Kw51 cw51_U l_c l_mf l_ms l_mn l_kb HCr HSr HKBr;refine (El HCw51.1 HRT.1).mono ?_;rintro r e52 ⟨rfl,hk⟩;have Re52_U:=zh (hk.at Rw51_U.1 qg);have HCe52:=zh (HCw51.1.kp0 hk);have HSe52:=zh (HSw51.1.loc hk qg);have HKkbe52:=zh (HKkbw51.1.keep hk qg);clear hk Rw51_U HCw51 HSw51 HKkbw51;have l_kb:=HKkbe52.1.lt;obtain ⟨l_c,l_mf,l_ms,l_mn⟩:=HCe52.1.lt;obtain ⟨l_U,xU⟩:=Rh Re52_U.1;have hlk2:=HKkbe52.1.look r (n:=kn) HKN.1
     go_upto_region 6 with fail
     go_cut [16] (fun s16 W=>s16= .bool false∧Ac [] e52 W)
     case first=>
      exact RV
     obtain ⟨rfl,hk⟩:=hcut;generalize wc=w53 at*
     have Rw53_U:=zh (hk.at Re52_U.1 qg);have HCw53:=zh (HCe52.1.kp0 hk);have HSw53:=zh (HSe52.1.loc hk qg);have HKkbw53:=zh (HKkbe52.1.keep hk qg);clear hk Re52_U HCe52 HSe52 HKkbe52 l_c l_U xU l_mf l_ms l_mn l_kb;have l_kb:=HKkbw53.1.lt;obtain ⟨l_c,l_mf,l_ms,l_mn⟩:=HCw53.1.lt;have l_U:=Ad Rw53_U.1
     go_wp2_with fail
     go_roundg f
     case measure=>omega
     exact ⟨k+1,by first|rfl|(simp;done)|(simp;omega),by omega,by omega,st1,HL.1,har,HKkbw53.1,HCw53.1,HSw53.1⟩
    | false=>
     rw [hkid,if_neg qg] at har;simp only [Option.bind_eq_bind,Option.bind_eq_some_iff] at har;obtain ⟨b,⟨r,hrt,hb⟩,har⟩:=har;obtain rfl:((kof r kf==2) !=u.array)=b:=by simpa using hb
     clear hb;obtain ⟨kn,hkn⟩:∃x,x=kof r kf:=⟨_,rfl⟩;have HKN:=zh hkn;rw [←hkn] at har;clear hkn;have HRT:=zh hrt;clear hrt
     cases harr:u.array with
     | true=>
      rw [harr] at har
      by_cases h2:kn=2
      ·have d2:((kn:Int)==2)=true:=by simp [h2]
       have d3:(kn==2)=true:=by simp [h2]
       rw [d3] at har;have l_kb:=HKBr.1.lt;obtain ⟨l_c,l_mf,l_ms,l_mn⟩:=HCr.1.lt
       go_upto_region 6 with fail
       refine zvc ?_;exact qrd
      have d2:((kn:Int)==2)=false:=by simp;omega
      have d3:(kn==2)=false:=by simp [h2]
      rw [d3] at har;have l_kb:=HKBr.1.lt;obtain ⟨l_c,l_mf,l_ms,l_mn⟩:=HCr.1.lt
      go_upto_region 6 with fail
      refine zvc ?_;exact zqd
     | false=>
      rw [harr] at har
      by_cases h2:kn=2
      ·have d2:((kn:Int)==2)=true:=by simp [h2]
       have d3:(kn==2)=true:=by simp [h2]
       rw [d3] at har;have l_kb:=HKBr.1.lt;obtain ⟨l_c,l_mf,l_ms,l_mn⟩:=HCr.1.lt
       go_upto_region 6 with fail
       refine zwc ?_;exact zqd
      have d2:((kn:Int)==2)=false:=by simp;omega
      have d3:(kn==2)=false:=by simp [h2]
      rw [d3] at har;have l_kb:=HKBr.1.lt;obtain ⟨l_c,l_mf,l_ms,l_mn⟩:=HCr.1.lt
      go_upto_region 6 with fail
      refine zwc ?_;exact qrd
 have hke:k=st1.uses.length:=by rw [HL.1];omega
 rw [hke,List.drop_length,Gt] at har;obtain rfl:st1=st':=by simpa using har
 clear har hl;have l_kb:=HKBr.1.lt;obtain ⟨l_c,l_mf,l_ms,l_mn⟩:=HCr.1.lt
 go_wp2_with fail
 refine Cq (v:= .tuple #[]) (fun W=>Ac [] wr W) jg (fun w51 hW=> ?_) rfl (fun w51 hW=> ?_)
 ·have Kw51:Ac [] wr w51:=hW;exact Le
 have Kw51:Ac [] wr w51:=hW;have HCw51:=zh (HCr.1.kp0 Kw51);have HSw51:=zh (HSr.1.loc Kw51 qg);have HKkbw51:=zh (HKBr.1.keep Kw51 qg);clear Kw51 l_c l_mf l_ms l_mn l_kb HCr HSr HKBr;exact ZO
end Go.Proofs.YtkfillfkbhbbjaaGreatDoor
