/- NodX5W, NodX11W, NodX41W, NodFW, NodAW, ChkW, Law, Knw. -/
import Derived.Test.YtkfillfkbhbbjaaGreatDoorRegI
import Derived.Deep.RegionHeld3
import Derived.Test.YtkfillfkbhbbjaaGreatDoorBltW
import Derived.Test.YtkfillfkbhbbjaaGreatDoorNodOW
import Derived.Test.YtkfillfkbhbbjaaGreatDoorDLawB
set_option maxRecDepth 100000
set_option maxHeartbeats 4000000
set_option linter.unusedSimpArgs false
set_option linter.unusedVariables false
namespace Go.Proofs.YtkfillfkbhbbjaaGreatDoor
open Go.RowKit
set_option maxHeartbeats 40000000 in
theorem TO{K:Ba}(hK:Dp K){T:Nat→Prop}{ua:Option Addr}{uc:Nat}{st:NS}{w:World}(h:CK K T ua uc st w)(kd:Int)(tx:ByteArray)(fm:Nat)(na:Option Addr)(nc re im:Nat)(kids:List Af){rec:Cu}{st1 st':NS}(h4:kd≠4)(h5:kd=5)(h19:kd≠19)(h20:kd≠20)(h32:kd≠32)(h33:kd≠33)(h34:kd≠34)(h35:kd≠35)(hkl:kids.length≤1000000)(hkd:Bc K.w0 (fun _=>True) kids (.slice na kids.length nc))(hrec:Ku K rec)(hpre:Uj K.g st (.mk kd tx fm kids re im)=some st1)(hcf:Lj rec kids st1=some st'):Calls Tryz.prog 43 #[.pointer (some ⟨K.c,0,none⟩),.agg #[.int .i64 kd,.string tx,.float .f64 fm,.slice na kids.length nc,.complex .f64 re im]] w fun r w'=>∃T' ua' uc',r= .returned (.tuple #[])∧CK K T' ua' uc' (st') w'∧Ak K T T' w w':=by
 have e4:(kd==4)=false:=beq_false_of_ne h4;have f4:(kd !=4)=true:=by simp [h4]
 have e19:(kd==19)=false:=beq_false_of_ne h19;have f19:(kd !=19)=true:=by simp [h19]
 have e20:(kd==20)=false:=beq_false_of_ne h20;have f20:(kd !=20)=true:=by simp [h20]
 have e32:(kd==32)=false:=beq_false_of_ne h32;have f32:(kd !=32)=true:=by simp [h32]
 have e33:(kd==33)=false:=beq_false_of_ne h33;have f33:(kd !=33)=true:=by simp [h33]
 have e34:(kd==34)=false:=beq_false_of_ne h34;have f34:(kd !=34)=true:=by simp [h34]
 have e35:(kd==35)=false:=beq_false_of_ne h35;have f35:(kd !=35)=true:=by simp [h35]
 have HKD:=zh hkd;have HREC:=zh hrec;have HCF:=zh hcf;have HNR:Hd (Au K.w0 (fun _=>True) (.mk kd tx fm kids re im) (.agg #[.int .i64 kd,.string tx,.float .f64 fm,.slice na kids.length nc,.complex .f64 re im])):=zh (.mk hkd);clear hkd hrec hcf h19 h20 h4 h32 h33 h34 h35;have HC0:=zh h;have HS0:=zh (Ak.refl K T w);clear h;have H5:=zh h5;clear h5
 go_enter Tryz.func43,Tryz.ntmps43
 obtain ⟨l_c,l_mf,l_ms,l_mn⟩:=HC0.1.lt
 go_upto_block 0 with fail
 exact qld
set_option maxHeartbeats 40000000 in
theorem OJ{K:Ba}(hK:Dp K){T:Nat→Prop}{ua:Option Addr}{uc:Nat}{st:NS}{w:World}(h:CK K T ua uc st w)(kd:Int)(tx:ByteArray)(fm:Nat)(na:Option Addr)(nc re im:Nat)(kids:List Af){rec:Cu}{st1 st':NS}(h4:kd≠4)(h5:kd=11)(h19:kd≠19)(h20:kd≠20)(h32:kd≠32)(h33:kd≠33)(h34:kd≠34)(h35:kd≠35)(hkl:kids.length≤1000000)(hkd:Bc K.w0 (fun _=>True) kids (.slice na kids.length nc))(hrec:Ku K rec)(hpre:Uj K.g st (.mk kd tx fm kids re im)=some st1)(hcf:Lj rec kids st1=some st'):Calls Tryz.prog 43 #[.pointer (some ⟨K.c,0,none⟩),.agg #[.int .i64 kd,.string tx,.float .f64 fm,.slice na kids.length nc,.complex .f64 re im]] w fun r w'=>∃T' ua' uc',r= .returned (.tuple #[])∧CK K T' ua' uc' (st') w'∧Ak K T T' w w':=by
 have e4:(kd==4)=false:=beq_false_of_ne h4;have f4:(kd !=4)=true:=by simp [h4]
 have e19:(kd==19)=false:=beq_false_of_ne h19;have f19:(kd !=19)=true:=by simp [h19]
 have e20:(kd==20)=false:=beq_false_of_ne h20;have f20:(kd !=20)=true:=by simp [h20]
 have e32:(kd==32)=false:=beq_false_of_ne h32;have f32:(kd !=32)=true:=by simp [h32]
 have e33:(kd==33)=false:=beq_false_of_ne h33;have f33:(kd !=33)=true:=by simp [h33]
 have e34:(kd==34)=false:=beq_false_of_ne h34;have f34:(kd !=34)=true:=by simp [h34]
 have e35:(kd==35)=false:=beq_false_of_ne h35;have f35:(kd !=35)=true:=by simp [h35]
 have HKD:=zh hkd;have HREC:=zh hrec;have HCF:=zh hcf;have HNR:Hd (Au K.w0 (fun _=>True) (.mk kd tx fm kids re im) (.agg #[.int .i64 kd,.string tx,.float .f64 fm,.slice na kids.length nc,.complex .f64 re im])):=zh (.mk hkd);clear hkd hrec hcf h19 h20 h4 h32 h33 h34 h35;have HC0:=zh h;have HS0:=zh (Ak.refl K T w);clear h;have H5:=zh h5;clear h5
 go_enter Tryz.func43,Tryz.ntmps43
 obtain ⟨l_c,l_mf,l_ms,l_mn⟩:=HC0.1.lt
 go_upto_block 0 with fail
 exact qld
set_option maxHeartbeats 40000000 in
theorem OI{K:Ba}(hK:Dp K){T:Nat→Prop}{ua:Option Addr}{uc:Nat}{st:NS}{w:World}(h:CK K T ua uc st w)(kd:Int)(tx:ByteArray)(fm:Nat)(na:Option Addr)(nc re im:Nat)(kids:List Af){rec:Cu}{st1 st':NS}(h4:kd≠4)(h5:kd=41)(h19:kd≠19)(h20:kd≠20)(h32:kd≠32)(h33:kd≠33)(h34:kd≠34)(h35:kd≠35)(hkl:kids.length≤1000000)(hkd:Bc K.w0 (fun _=>True) kids (.slice na kids.length nc))(hrec:Ku K rec)(hpre:Uj K.g st (.mk kd tx fm kids re im)=some st1)(hcf:Lj rec kids st1=some st'):Calls Tryz.prog 43 #[.pointer (some ⟨K.c,0,none⟩),.agg #[.int .i64 kd,.string tx,.float .f64 fm,.slice na kids.length nc,.complex .f64 re im]] w fun r w'=>∃T' ua' uc',r= .returned (.tuple #[])∧CK K T' ua' uc' (st') w'∧Ak K T T' w w':=by
 have e4:(kd==4)=false:=beq_false_of_ne h4;have f4:(kd !=4)=true:=by simp [h4]
 have e19:(kd==19)=false:=beq_false_of_ne h19;have f19:(kd !=19)=true:=by simp [h19]
 have e20:(kd==20)=false:=beq_false_of_ne h20;have f20:(kd !=20)=true:=by simp [h20]
 have e32:(kd==32)=false:=beq_false_of_ne h32;have f32:(kd !=32)=true:=by simp [h32]
 have e33:(kd==33)=false:=beq_false_of_ne h33;have f33:(kd !=33)=true:=by simp [h33]
 have e34:(kd==34)=false:=beq_false_of_ne h34;have f34:(kd !=34)=true:=by simp [h34]
 have e35:(kd==35)=false:=beq_false_of_ne h35;have f35:(kd !=35)=true:=by simp [h35]
 have HKD:=zh hkd;have HREC:=zh hrec;have HCF:=zh hcf;have HNR:Hd (Au K.w0 (fun _=>True) (.mk kd tx fm kids re im) (.agg #[.int .i64 kd,.string tx,.float .f64 fm,.slice na kids.length nc,.complex .f64 re im])):=zh (.mk hkd);clear hkd hrec hcf h19 h20 h4 h32 h33 h34 h35;have HC0:=zh h;have HS0:=zh (Ak.refl K T w);clear h;have H5:=zh h5;clear h5
 go_enter Tryz.func43,Tryz.ntmps43
 obtain ⟨l_c,l_mf,l_ms,l_mn⟩:=HC0.1.lt
 go_upto_block 0 with fail
 exact qld
theorem WY{K:Ba}(hK:Dp K){T:Nat→Prop}{ua:Option Addr}{uc:Nat}{st:NS}{w:World}(h:CK K T ua uc st w)(kd:Int)(tx:ByteArray)(fm:Nat)(na:Option Addr)(nc re im:Nat)(kids:List Af){rec:Cu}{st1 st':NS}(hkk:kd=35)(hkl:kids.length≤1000000)(hkd:Bc K.w0 (fun _=>True) kids (.slice na kids.length nc))(hrec:Ku K rec)(hpre:Uj K.g st (.mk kd tx fm kids re im)=some st1)(hl0:0≤st1.loops)(hl1:st1.loops≤900000)(hcf:Ga rec false 0 kids {st1 with loops:=st1.loops+1}=some st')(hl2:0≤st'.loops)(hl3:st'.loops≤900001):Calls Tryz.prog 43 #[.pointer (some ⟨K.c,0,none⟩),.agg #[.int .i64 kd,.string tx,.float .f64 fm,.slice na kids.length nc,.complex .f64 re im]] w fun r w'=>∃T' ua' uc',r= .returned (.tuple #[])∧CK K T' ua' uc' ({st' with loops:=st'.loops -1}) w'∧Ak K T T' w w':=by
 have hlob: -1000000≤st1.loops+1∧st1.loops+1≤1000000:=by omega
 have e35:(kd==35)=true:=by simp [hkk]
 rw [Km,if_neg jh,if_pos jh] at hpre;have e4:(kd==4)=false:=beq_false_of_ne jh;have e5:(kd==5)=false:=beq_false_of_ne jh;have e11:(kd==11)=false:=beq_false_of_ne jh;have e41:(kd==41)=false:=beq_false_of_ne jh;have e34:(kd==34)=false:=beq_false_of_ne jh;have e19:(kd==19)=false:=beq_false_of_ne jh;have e20:(kd==20)=false:=beq_false_of_ne jh;have HKD:=zh hkd;have HREC:=zh hrec;have HCF:=zh hcf;have HNR:Hd (Au K.w0 (fun _=>True) (.mk kd tx fm kids re im) (.agg #[.int .i64 kd,.string tx,.float .f64 fm,.slice na kids.length nc,.complex .f64 re im])):=zh (.mk hkd);clear hkd hkk hrec hcf;have HC0:=zh h;have HS0:=zh (Ak.refl K T w);clear h
 go_enter_defers Tryz.func43,Tryz.ntmps43
 obtain ⟨l_c,l_mf,l_ms,l_mn⟩:=HC0.1.lt
 go_upto_block 0 with fail
 refine XF ?_;rintro w1 ⟨Kw1,cw1_B⟩;have ⟨n_c_B,n_B_c⟩:=Ai l_c;have ⟨n_mf_B,n_B_mf⟩:=Ai l_mf;have ⟨n_ms_B,n_B_ms⟩:=Ai l_ms;have ⟨n_mn_B,n_B_mn⟩:=Ai l_mn;have o_B:w.heap.size≤w.heap.size:=Nat.le_refl _;have off_B:Fu K T (w.heap.size):=Ao HC0.1 (Nat.le_refl _);have o0_B:K.w0.heap.size≤w.heap.size:=Nat.le_trans HC0.1.keep.size (Nat.le_refl _);have HCw1:=zh (HC0.1.kp0 Kw1);have HSw1:=zh (HS0.1.loc Kw1 qg);have Rw1_B:=zh cw1_B;clear Kw1 cw1_B l_c l_mf l_ms l_mn HC0 HS0
 go_cut [] from 8 to 129 (fun W=>∃T' ua' uc',CK K T' ua' uc' st1 W∧Ak K T T' w W∧W.heap[w.heap.size]? =some (.cells #[.int .i64 kd,.string tx,.float .f64 fm,.slice na kids.length nc,.complex .f64 re im] 50 (0,0))∧Fu K T' (w.heap.size))
 case first=>
  clear HKD HREC HCF hlob hl0 hl1;obtain ⟨l_c,l_mf,l_ms,l_mn⟩:=HCw1.1.lt;obtain ⟨l_B,xB⟩:=Bv Rw1_B.1
  go_wp2_with fail
  clear l_c l_B xB l_mf l_ms l_mn;refine zcd ?_;rintro r e21 ⟨T21,ua21,uc21,rfl,hc,hs⟩;have off2_B:=hs.off (Ad Rw1_B.1) off_B;have Re21_B:=zh (hs.at Rw1_B.1 off_B);have off_B':=off2_B;have HCe21:=zh hc;have HSe21:=zh (HSw1.1.trans hs);clear Rw1_B off_B HCw1 HSw1 hc hs;have off_B:=off_B';clear off_B' off2_B;obtain ⟨l_c,xc⟩:=Cp HCe21.1.row;obtain ⟨-,l_mf,l_ms,l_mn⟩:=HCe21.1.lt;obtain ⟨l_B,xB⟩:=Bv Re21_B.1;obtain ⟨oo,hoo⟩:∃x,x=Iv K.g (Bi K.g st (Af.mk kd tx fm kids re im)) tx:=⟨_,rfl⟩;rw [←hoo] at hpre;obtain ⟨hul,rfl⟩:=Jh hpre;have HUL:=zh hul;have HOO:=zh hoo;clear hul hoo hpre
  go_upto_region 10 with fail
  obtain ⟨i1,hi1,hi2,hi3,hi4⟩:=Oi;have HI:=zh (And.intro hi1 (And.intro hi2 (And.intro hi3 hi4)));clear hi1 hi2 hi3 hi4;have HOF:=zh (IQ hK HCe21.1 tx);rw [←HOO.1] at HOF;have hul0:(Bi K.g st (Af.mk kd tx fm kids re im)).uses.length=(oo).2.uses.length:=by rw [HOO.1,Qp]
  try clear hcf
  try clear kc0
  try clear kc1
  try clear kc2
  try clear kc3
  try clear kc4
  try clear hcs
  try clear hcp
  try clear hlk
  try clear HREC
  try clear HKD
  try clear HSP
  try clear HFA
  try clear HFN
  try clear HFI
  try clear HCF
  try clear hkn
  try clear hm
  try clear hkl
  try clear hlt
  try clear hlt2
  try clear lg2
  try clear lg3
  try clear e4
  try clear e5
  try clear hk1
  try clear hi
  try clear o0_B
  try clear o_B
  try clear n_c_B
  try clear n_mf_B
  try clear n_ms_B
  try clear n_mn_B
  try clear n_B_c
  try clear n_B_mf
  try clear n_B_ms
  try clear n_B_mn
  try clear e19
  try clear e20
  try clear e11
  try clear e41
  try clear e32
  try clear e33
  try clear e34
  try clear e35
  try clear e4
  try clear e5
  try clear f19
  try clear f20
  try clear f11
  try clear f41
  try clear f32
  try clear f33
  try clear f34
  try clear f35
  try clear f4
  try clear f5
  try clear HNR
  refine wp_region_noPanic ?_
  go_region_law (first|((fail_if_success (have hm9:=hcu));refine Bd (f:=75) (vals:= #[.pointer (some ⟨K.c,0,none⟩),.string tx]) rfl _ rfl qh (HOF.1 _ jg) ?_;rintro v u_ ⟨rfl,hcu,hsu⟩;have l_c2:=Ad hcu.row;have q0:=Aa hcu.row 0;have q1:=Aa hcu.row 1;have q2:=Aa hcu.row 2;have q3:=Aa hcu.row 3;have q4:=Aa hcu.row 4;have q5:=Aa hcu.row 5;have q6:=Aa hcu.row 6;have q7:=Aa hcu.row 7;have q8:=Aa hcu.row 8;have q9:=Aa hcu.row 9;have q10:=Aa hcu.row 10;simp at q0 q1 q2 q3 q4 q5 q6 q7 q8 q9 q10;have r_B:=hsu.at Re21_B.1 off_B;have lr_B:=Ad r_B;have zB_0:=Aa r_B 0;have zB_1:=Aa r_B 1;have zB_2:=Aa r_B 2;have zB_3:=Aa r_B 3;have zB_4:=Aa r_B 4;simp at zB_0 zB_1 zB_2 zB_3 zB_4)|(refine Gr (fun W=>Ac [] u_ W∧W.heap[u_.heap.size]? =some (.cells #[.complex .f64 re im,.int .i64 oo.1.1,.string oo.1.2,.bool true,.int .i64 0,.string ⟨#[]⟩,.bool false,.bool false] 106 (0,0))) ⟨jg,qd⟩ ?_;rintro wq ⟨hkq,cG⟩;refine Fk Ui rfl (.tmp 41) (.tmp 49) 68 rfl Tryz.underlying68 HI.1.1 HI.1.2.1 HI.1.2.2.1 HI.1.2.2.2 rfl zi zi rfl rfl (hcu.kp0 hkq).uses (c:= [.complex .f64 re im,.int .i64 oo.1.1,.string oo.1.2,.bool true,.int .i64 0,.string ⟨#[]⟩,.bool false,.bool false]) cG (x:=(⟨re,im,oo.1,true,Gs,false,false⟩:Kf)) (S:=fun _=>False) rfl (fun _ h=>h.elim) (fun _ h=>h.elim) (hcu.kp0 hkq).up (hcu.kp0 hkq).keep.size (Nat.le_of_lt HUL.1) ?_;rintro va wa fl hfl hka hown;obtain ⟨ka2,kc2,hva,-⟩:=hown.slice;obtain ⟨kn,hkn⟩:∃k,k=((oo.2).uses++ [(⟨re,im,oo.1,true,Gs,false,false⟩:Kf)]).length:=⟨_,rfl⟩;rw [←hkn] at hva;subst hva;have HKN:=zh hkn;clear hkn;have r_c:=hka.at (hcu.kp0 hkq).row (fun h=>(hcu.kp0 hkq).ns.1 (hfl _ h));have lw_c:=Ad r_c;have z0:=Aa r_c 0;have z1:=Aa r_c 1;have z2:=Aa r_c 2;have z3:=Aa r_c 3;have z4:=Aa r_c 4;have z5:=Aa r_c 5;have z6:=Aa r_c 6;have z7:=Aa r_c 7;have z8:=Aa r_c 8;have z9:=Aa r_c 9;have z10:=Aa r_c 10;have zf0:=Ab r_c 0;have zf1:=Ab r_c 1;have zf2:=Ab r_c 2;have zf3:=Ab r_c 3;have zf4:=Ab r_c 4;have zf5:=Ab r_c 5;have zf6:=Ab r_c 6;have zf7:=Ab r_c 7;have zf8:=Ab r_c 8;have zf9:=Ab r_c 9;have zf10:=Ab r_c 10;simp at z0 z1 z2 z3 z4 z5 z6 z7 z8 z9 z10))
  all_goals
   refine NoPanic.normal ?_
   go_wp2_with fail
   go_meet
   have hkn:=HKN.1;subst hkn;exact jcd
 obtain ⟨T1,ua1,uc1,hc,hs,hB,off_B⟩:=hcut;generalize wc=wl at*
 have HCl:=zh hc;have HSl:=zh hs;have RBl:=zh hB;clear hc hs hB hpre HNR HCw1 HSw1 Rw1_B;obtain ⟨l_c,xc⟩:=Cp HCl.1.row;obtain ⟨-,l_mf,l_ms,l_mn⟩:=HCl.1.lt;obtain ⟨l_B,xB⟩:=Bv RBl.1
 go_wp2_with fail
 refine Bj (fun W=>Ac [K.c] wl W∧W.heap[K.c]? =some (.cells #[.slice K.ra K.g.rules.length K.rc,.slice K.fa K.g.funcs.length K.fc,.map (some K.mf),.int .i64 st1.fn,.int .i64 st1.rule,.int .i64 (st1.loops+1),.slice ua1 st1.uses.length uc1,.map (some K.ms),.map (some K.mn),.complex .f64 st1.re st1.im,.int .i64 st1.e] 70 (0,0))) ⟨jg,(zc HCl.1.row l_c)⟩ ?_;rintro w31 ⟨Kw31,cw31_c⟩;have Rw31_B:=zh (Kw31.at RBl.1 (by simp [n_B_c]));have HCw31:Hd (CK K T1 ua1 uc1 ({st1 with loops:=st1.loops+1}) w31):=zh (HCl.1.upd hK Kw31 cw31_c qg qg qg qg qg rfl rfl rfl HCl.1.fn hlob);have HSw31:=zh (HSl.1.loc Kw31 XJ);clear Kw31 cw31_c l_c xc l_B xB l_mf l_ms l_mn RBl HCl HSl
 go_loopg [144] (kids.length+1) (fun g j wr=>RL K rec false kids st' T w (w.heap.size) (.cells #[.int .i64 kd,.string tx,.float .f64 fm,.slice na kids.length nc,.complex .f64 re im] 50 (0,0)) g j wr)
 case atStart=>exact ⟨0,rfl,Nat.zero_le _,rfl,_,_,_,_,HCF.1,HCw31.1,HSw31.1,Rw31_B.1,off_B⟩
 exact jae
theorem Tr(rec:Cu):∀(l:List Af) (i:Nat) (st:NS),Ga rec false i l st=Lj rec l st
 | [],_,_=>rfl
 | k::l,i,st=>by
   rw [Ga,Lj];have e:Qv false i st k=st:=by unfold Qv;rw [if_neg qg]
   rw [e];show (rec st k).bind _=(rec st k).bind _
   congr 1
   funext s
   exact Tr rec l (i+1) s
theorem DC(g:Ah)(name:ByteArray)(st:NS)(k:Af):DD g name st [k]=if name=Hf∧k.kind=4 then some (Iv g (Bi g st k) k.name).2 else none:=rfl
theorem LF{g:Ah}{name:ByteArray}{st s:NS}{kids:List Af}(h:DD g name st kids=some s):∃hlt:0<kids.length,kids.length=1∧name=Hf∧(kids[0]'hlt).kind=4∧s=(Iv g (Bi g st (kids[0]'hlt)) (kids[0]'hlt).name).2:=by
 match kids,h with
 | [k],h=>
  rw [DC] at h
  by_cases hk:name=Hf∧k.kind=4
  ·rw [if_pos hk] at h;exact ⟨by simp,rfl,hk.1,hk.2,(Option.some.inj h).symm⟩
  rw [if_neg hk] at h;cases h
 | [],h=>cases h
 |_::_::_,h=>cases h
theorem LG{g:Ah}{name:ByteArray}{st:NS}{kids:List Af}(h:DD g name st kids=none)(hn:name=Hf):∀h1:kids.length=1,((kids[0]'jh).kind==4)=false:=by
 intro h1
 match kids,h1,h with
 | [k],_,h=>
  rw [DC] at h
  by_cases hk:name=Hf∧k.kind=4
  ·rw [if_pos hk] at h;cases h
  exact beq_false_of_ne fun h4=>hk ⟨hn,h4⟩
theorem OV{k:Int}(h:¬Lh k=true):k≠32∧k≠33∧k≠34∧k≠35:=by
 refine ⟨?_, ?_, ?_, ?_⟩<;>(rintro rfl;exact h rfl)
theorem LE{k:Int}(h:Lh k=true):k=32∨k=33∨k=34∨k=35:=by
 unfold Lh at h;simp only [Bool.or_eq_true,beq_iff_eq] at h
 omega
theorem FW{K:Ba}(hK:Dp K){rec:Cu}(hrec:Ku K rec):Ku K (Yj K.g rec):=by
 intro st n st' v hn hv T ua uc w h;obtain ⟨kd,tx,fm,kids,re,im⟩:=n
 cases hv with
 | mk hk=>
  obtain ⟨na,nc,rfl⟩:=hk.shape;rw [Qg] at hn
  split at hn
  ·cases hn
  rename_i hkl;have hkl:kids.length≤1000000:=by omega
  split at hn
  ·rename_i h19;refine OK hK h kd tx fm na nc re im kids h19 fun w h=> ?_
   split at hn
   ·rename_i h0;obtain rfl:Al st re im 28=st':=by simpa using hn
    exact XW hK h kd tx fm na nc re im kids (fn:=flook K.g tx) rfl h0
   rename_i h0;obtain ⟨i,hi⟩:∃i,flook K.g tx=i+1:=⟨flook K.g tx -1,by omega⟩;have hlt:i<K.g.funcs.length:=DT hi;have hp:Bk K.g (flook K.g tx)=K.g.funcs[i].params:=by unfold Bk;rw [hi,Nat.add_sub_cancel,List.getElem?_eq_getElem hlt]
   rw [hp] at hn
   split at hn
   ·rename_i hl;obtain rfl:Al st re im 31=st':=by simpa using hn
    exact XV hK h kd tx fm na nc re im kids (fn:=flook K.g tx) rfl hi hlt hl
   rename_i hl;exact XU hK h kd tx fm na nc re im kids (fn:=flook K.g tx) rfl hi hlt jh hkl hk hrec hn
  rename_i h19
  split at hn
  ·rename_i h20;refine OL hK h kd tx fm na nc re im kids h20 fun w h=> ?_
   unfold Ml at hn;obtain ⟨c1,c2,hcn⟩:∃a b,Bz tx=(a,b):=⟨_,_,rfl⟩;rw [hcn] at hn
   split at hn
   ·rename_i hl;obtain rfl:Al st re im 31=st':=by simpa using hn
    by_cases hlo:kids.length<c1
    ·exact VO hK h kd tx fm na nc re im kids hcn hlo
    exact VN hK h kd tx fm na nc re im kids hcn hlo (hl.resolve_left hlo)
   rename_i hl;simp only [not_or] at hl
   split at hn
   ·rename_i s' hlen;obtain rfl:s'=st':=by simpa using hn
    obtain ⟨hlt,h1,h2,h3,rfl⟩:=LF hlen;exact ME hK h kd tx fm na nc re im kids hcn hl.1 hl.2 hk h2 hlt h1 h3
   rename_i hlen;exact VM hK h kd tx fm na nc re im kids hcn hl.1 hl.2 hkl hk hrec (fun e=>LG hlen e) hn
  rename_i h20;simp only [Option.bind_eq_some_iff] at hn;obtain ⟨s1,hpre,hcf⟩:=hn
  split at hcf
  ·rename_i hlp
   split at hcf
   ·cases hcf
   rename_i hb1;simp only [not_or,Int.not_lt] at hb1;simp only [Option.bind_eq_some_iff] at hcf;obtain ⟨s2,hcf,hend⟩:=hcf
   split at hend
   ·cases hend
   rename_i hb2;simp only [not_or,Int.not_lt] at hb2;obtain rfl:{s2 with loops:=s2.loops -1}=st':=by simpa using hend
   by_cases h35:kd=35
   ·have e:(kd==34)=false:=by simp [h35]
    rw [e] at hcf;exact WY hK h kd tx fm na nc re im kids h35 hkl hk hrec hpre hb1.1 hb1.2 hcf hb2.1 hb2.2
   have h3:kd=32∨kd=33∨kd=34:=by have:=LE hlp;omega
   rw [Km,if_neg jh,if_neg jh,if_neg jh,if_neg jh,if_neg jh] at hpre;obtain rfl:st=s1:=by simpa using hpre
   by_cases h34:kd=34
   ·have e:(kd==34)=true:=by simp [h34]
    rw [e] at hcf;exact TP hK h kd tx fm na nc re im kids h34 hb1.1 hb1.2 hkl hk hrec hcf hb2.1 hb2.2
   have e:(kd==34)=false:=by simp [h34]
   rw [e] at hcf;exact TQ hK h kd tx fm na nc re im kids jh hb1.1 hb1.2 hkl hk hrec hcf hb2.1 hb2.2
  rename_i hlp;obtain ⟨h32,h33,h34,h35⟩:=OV hlp;rw [Tr] at hcf
  by_cases h4:kd=4
  ·exact TR hK h kd tx fm na nc re im kids h4 h19 h20 jh jh h32 h33 h34 h35 hkl hk hrec hpre hcf
  by_cases h5:kd=5
  ·exact TO hK h kd tx fm na nc re im kids h4 h5 h19 h20 h32 h33 h34 h35 hkl hk hrec hpre hcf
  by_cases h11:kd=11
  ·exact OJ hK h kd tx fm na nc re im kids h4 h11 h19 h20 h32 h33 h34 h35 hkl hk hrec hpre hcf
  by_cases h41:kd=41
  ·exact OI hK h kd tx fm na nc re im kids h4 h41 h19 h20 h32 h33 h34 h35 hkl hk hrec hpre hcf
  exact TS hK h kd tx fm na nc re im kids h4 h5 h19 h20 h11 h41 h32 h33 h34 h35 hkl hk hrec hpre hcf
theorem Za{K:Ba}(hK:Dp K):∀fu,Ku K (Jq K.g fu)
 |0=>fun _ _ _ _ h=>by cases h
 |fu+1=>FW hK (Za hK fu)
theorem RW{fu:Nat}{g:Ah}{st st1:NS}(h:FC fu g st=some st1):(st.e≠0∧st1=st)∨(st.e=0∧∃s,BN (Jq g fu) g.rules st=some s∧BO (Jq g fu) 0 g.funcs s=some st1):=by
 unfold FC at h;exact qqe
theorem VL{fu:Nat}{g:Ah}{t:Ox}{w:World}{S:Nat→Prop}{v:Value}(hv:Iu w S g v)(hx:Kv fu g=some t):Calls Tryz.prog 9 #[v] w fun r w'=>∃iv,r= .returned (.tuple #[iv,.complex .f64 t.re t.im,.int .i64 t.e])∧AA w' (fun g=>w.heap.size≤g) t.info iv∧Ac [] w w':=by
 obtain ⟨ra,rc,fa,fc,rfl,hr,hf⟩:=hv;unfold Kv at hx
 by_cases hsb:Pl g=false
 ·rw [if_pos hsb] at hx;cases hx
 rw [if_neg hsb] at hx;simp only [Option.bind_eq_bind,Option.bind_eq_some_iff] at hx;obtain ⟨st1,hall,hx⟩:=hx
 by_cases hbig:400000<st1.uses.length∨400000<st1.seen.length
 ·rw [if_pos hbig] at hx;cases hx
 rw [if_neg hbig] at hx;simp only [Option.bind_eq_some_iff] at hx;obtain ⟨st2,harr,hrest⟩:=hx;have hsb2:Pl g=true:=by cases h:Pl g with|true=>rfl|false=>exact absurd h hsb
 unfold Pl at hsb2;simp only [Bool.and_eq_true,decide_eq_true_eq,List.all_eq_true] at hsb2;obtain ⟨⟨⟨hs1,hs2⟩,hs3⟩,hs4⟩:=hsb2;have HPR:=zh (hr.to Dh (T:=fun _=>True) fun _ _=>trivial);have HPF:=zh (hf.to Es (T:=fun _=>True) fun _ _=>trivial);clear hr hf hsb
 go_enter Tryz.func9,Tryz.ntmps9
 go_upto_region 1 with fail
 refine Bj (fun W=>Ac [] w W∧W.heap[w.heap.size]? =some (.cells #[.slice ra g.rules.length rc,.slice fa g.funcs.length fc] 33 (0,0))∧W.heap[w.heap.size+1]? =some (.cells #[.slice none 0 0,.slice none 0 0,.slice none 0 0] 25 (0,0))) ⟨jg,jd,jd⟩ ?_;rintro w1 ⟨k1,cP,cR⟩;obtain ⟨RR,hRR⟩:∃x,x=w.heap.size+1:=⟨_,rfl⟩;rw [←hRR] at cR⊢;have o_R:w.heap.size≤RR:=by omega
 have HK1:=zh k1;have HRR:=zh cR;have HPR1:=zh (HPR.1.kp Dh k1 qg);have HPF1:=zh (HPF.1.kp Es k1 qg);obtain ⟨l_P,xP⟩:=Ki cP;have hm65:∀W:World,(Instr.makeMap 65 none).run Tryz.prog W= .ok (.map (some W.heap.size)) (W.alloc (.map #[] 0)):=fun _=>rfl
 have hm66:∀W:World,(Instr.makeMap 66 none).run Tryz.prog W= .ok (.map (some W.heap.size)) (W.alloc (.map #[] 0)):=fun _=>rfl
 have hm67:∀W:World,(Instr.makeMap 67 none).run Tryz.prog W= .ok (.map (some W.heap.size)) (W.alloc (.map #[] 0)):=fun _=>rfl
 clear k1 cP cR HPR HPF
 go_wp2_with fail
 refine An (fun W=>Ac [] w1 W∧W.heap[w1.heap.size]? =some (.map #[] 0)∧W.heap[w1.heap.size+1]? =some (.map #[] 0)∧W.heap[w1.heap.size+2]? =some (.map #[] 0)∧W.heap[w1.heap.size+3]? =some (.cells #[.slice ra g.rules.length rc,.slice fa g.funcs.length fc,.map (some w1.heap.size),.int .i64 0,.int .i64 0,.int .i64 0,.slice none 0 0,.map (some (w1.heap.size+1)),.map (some (w1.heap.size+2)),.complex .f64 0 0,.int .i64 0] 70 (0,0))) ⟨jg,jd,jd,jd,jd⟩ ?_;rintro w2 ⟨k2,rmf,rms,rmn,rc2⟩;clear l_P xP hm65 hm66 hm67;obtain ⟨K,hKd⟩:∃K:Ba,K=⟨g,w1,w1.heap.size+3,w1.heap.size,w1.heap.size+1,w1.heap.size+2,ra,rc,fa,fc⟩:=⟨_,rfl⟩;have eg:K.g=g:=by rw [hKd]
 have e0:K.w0=w1:=by rw [hKd]
 have ec:w1.heap.size+3=K.c:=by rw [hKd]
 have hK:Dp K:=by
  subst hKd;exact ⟨HPR1.1,HPF1.1,Nat.le_add_right _ _,Nat.le_refl _,Nat.le_add_right _ _,Nat.le_add_right _ _,by simp,by show g.funcs.length≤_;omega,hs2,fun f hf=>Nat.le_trans (hs3 f hf) jh,hs4⟩
 have hrow:w2.heap[K.c]? =some (XS K IR none 0):=by subst hKd;exact rc2
 have hrmf:w2.heap[K.mf]? =some (.map #[] 0):=by subst hKd;exact rmf
 have hrms:w2.heap[K.ms]? =some (.map #[] 0):=by subst hKd;exact rms
 have hrmn:w2.heap[K.mn]? =some (.map #[] 0):=by subst hKd;exact rmn
 have hk01:Ac [] K.w0 w2:=by rw [e0];exact k2
 have HKR:Hd (∀{W W':World},Ac [] K.w0 W→Ac [RR] W W'→Ac [] w W'):=zh fun h1 h2=>HK1.1.trans (fp':= [RR]) ((e0▸h1.weaken (fp':= [RR]) qg).trans h2 (fun _ h=> .inl h)) (by simpa using o_R)
 have HRR0:Hd (K.w0.heap[RR]? =some (.cells #[.slice none 0 0,.slice none 0 0,.slice none 0 0] 25 (0,0))):=zh (by rw [e0];exact HRR.1);have hs5:∀f∈K.g.funcs,f.params.length≤400000:=by rw [eg];exact hs3
 have hs6:K.g.funcs.length≤400000:=by rw [eg];exact hs1
 have HS:=zh (And.intro hs5 hs6);rw [ec];rw [←eg] at hall hrest;clear hKd e0 ec k2 rc2 rmf rms rmn HPR1 HPF1 HRR HK1 hs1 hs2 hs3 hs4 hs5 hs6 eg hRR;have HAL:=zh hall;have HAR:=zh harr;have HRS:=zh hrest;obtain ⟨st0,hst0⟩:∃x,Er K.g 0 K.g.funcs IR=x:=⟨_,rfl⟩;rw [hst0] at HAL;clear hall harr hrest;refine (LO hK hk01 hrow hrmf hrms hrmn hst0).mono ?_;rintro r w3 ⟨T3,ua3,uc3,rfl,hc⟩;have HC3:=zh hc;clear hk01 hrow hrmf hrms hrmn hc hst0
 rcases RW HAL.1 with ⟨h0,rfl⟩|⟨h0,s1,hr1,hf1⟩
 ·have d0:(st1.e==0)=false:=beq_false_of_ne h0;have d1:(st1.e !=0)=true:=by simp [h0]
  rcases IS HAR.1 with ⟨-,rfl⟩|⟨h1,-⟩
  rotate_left
  ·exact absurd h1 h0
  obtain ⟨l_c,xc⟩:=Cp HC3.1.row
  go_upto_region 8 with fail
  have rR:w3.heap[RR]? =some (.cells #[.slice none 0 0,.slice none 0 0,.slice none 0 0] 25 (0,0)):=HC3.1.keep.at HRR0.1 qg;obtain ⟨l_R,xR⟩:=Lr rR
  go_cut [3,4] (fun s3 s4 W=>s3= .complex .f64 st2.re st2.im∧s4= .int .i64 st2.e∧Ac [RR] w3 W∧W.heap[RR]? =some (.cells #[.slice none 0 0,.slice none 0 0,.slice none 0 0] 25 (0,0)))
  case first=>
   exact zpe
  obtain ⟨rfl,rfl,k8,c8⟩:=hcut;generalize wc=w8 at*
  have h8:=zh c8;have hk8:=zh k8;have HCX:=HC3;clear l_c xc HC3 rR l_R xR c8 k8;exact qvd
 have HR1:=zh hr1;have HF1:=zh hf1;clear hr1 hf1;have d0:(st0.e==0)=true:=by simp [h0]
 obtain ⟨l_c,xc⟩:=Cp HC3.1.row
 go_wp2_with fail
 clear l_c xc;refine (VQ hK HC3.1 (Za hK fu) HR1.1 HF1.1).mono ?_;rintro r w4 ⟨T4,ua4,uc4,rfl,hc,-⟩;have HC4:=zh hc;clear hc HC3 HR1 HF1 d0 h0
 rcases IS HAR.1 with ⟨h0,rfl⟩|⟨h0,k1,hkf,har⟩
 ·have d0:(st2.e==0)=false:=beq_false_of_ne h0;have d1:(st2.e !=0)=true:=by simp [h0]
  obtain ⟨l_c,xc⟩:=Cp HC4.1.row
  go_upto_region 8 with fail
  have rR:w4.heap[RR]? =some (.cells #[.slice none 0 0,.slice none 0 0,.slice none 0 0] 25 (0,0)):=HC4.1.keep.at HRR0.1 qg;obtain ⟨l_R,xR⟩:=Lr rR
  go_cut [3,4] (fun s3 s4 W=>s3= .complex .f64 st2.re st2.im∧s4= .int .i64 st2.e∧Ac [RR] w4 W∧W.heap[RR]? =some (.cells #[.slice none 0 0,.slice none 0 0,.slice none 0 0] 25 (0,0)))
  case first=>
   exact zpe
  obtain ⟨rfl,rfl,k8,c8⟩:=hcut;generalize wc=w8 at*
  have h8:=zh c8;have hk8:=zh k8;have HCX:=HC4;clear l_c xc HC4 rR l_R xR c8 k8;exact qvd
 have d0:(st1.e==0)=true:=by simp [h0]
 have HKF:=zh hkf;have HAF:=zh har;obtain ⟨hu2,hn2⟩:=Rk har;have hul:st1.uses.length≤400000:=by omega
 have hnl:st1.seen.length≤400000:=by omega
 clear hkf har hbig h0;obtain ⟨l_c,xc⟩:=Cp HC4.1.row
 go_wp2_with fail
 clear l_c xc;refine (GQ hK HC4.1 HKF.1 jh HAF.1).mono ?_;rintro r w5 ⟨T5,ua5,uc5,rfl,hc,-⟩;have HC5:=zh hc;clear hc HC4 HKF HAF d0
 by_cases h0:st2.e=0
 ·have d1:(st2.e !=0)=false:=by simp [h0]
  have hrest:=HRS.1;rw [Wd,if_neg YI] at hrest;simp only [Option.bind_eq_bind,Option.bind_eq_some_iff,Option.some.injEq] at hrest;obtain ⟨k2,hkf,x,hxi,rfl⟩:=hrest;have HKF:=zh hkf;have HXI:=zh hxi;clear hkf hxi h0 HRS;obtain ⟨l_c,xc⟩:=Cp HC5.1.row
  go_wp2_with fail
  clear l_c xc;refine (PH hK HC5.1 HKF.1 (by rw [hu2];omega) (by rw [hn2];exact hnl) HS.1.2 HS.1.1 HXI.1).mono ?_;rintro r w6 ⟨v,rfl,hiv,hk⟩;obtain ⟨sa,sc,aa,ac,pa,pc,rfl,hi1,hi2,hi3⟩:=hiv;have rR:w6.heap[RR]? =some (.cells #[.slice none 0 0,.slice none 0 0,.slice none 0 0] 25 (0,0)):=hk.at (HC5.1.keep.at HRR0.1 qg) qg;obtain ⟨l_R,xR⟩:=Lr rR;have HI1:=zh hi1;have HI2:=zh hi2;have HI3:=zh hi3;have HK6:=zh (HC5.1.keep.trans hk qg);have hR5:RR<w5.heap.size:=Ad (HC5.1.keep.at HRR0.1 qg);have hw5:w.heap.size≤w5.heap.size:=Nat.le_trans o_R (Nat.le_of_lt hR5);clear hi1 hi2 hi3 hk HC5;obtain ⟨n1,hn1⟩:∃n,n=x.scalars.length:=⟨_,rfl⟩;obtain ⟨n2,hn3⟩:∃n,n=x.arrays.length:=⟨_,rfl⟩;obtain ⟨n3,hn4⟩:∃n,n=x.params.length:=⟨_,rfl⟩;rw [←hn1,←hn3,←hn4];have HN:=zh (And.intro hn1 (And.intro hn3 hn4));clear hn1 hn3 hn4
  go_wp2_with fail
  refine Ap (v:= .tuple #[.agg #[.slice sa n1 sc,.slice aa n2 ac,.slice pa n3 pc],.complex .f64 0 0,.int .i64 0]) (fun W=>Ac [RR] w6 W∧W.heap[RR]? =some (.cells #[.slice sa n1 sc,.slice aa n2 ac,.slice pa n3 pc] 25 (0,0))) ⟨jg,(ze rR)⟩ (fun W hW=> ?_) rfl (fun W hW=> ?_)
  ·obtain ⟨hW,rq⟩:=hW;exact jwe
  obtain ⟨hW,-⟩:=hW;obtain ⟨hn1,hn3,hn4⟩:=HN.1;subst hn1 hn3 hn4;have hd:∀y∈ [RR],¬w5.heap.size≤y:=fun y hy hc=>by simp at hy;subst hy;omega
  exact ⟨_,rfl,⟨sa,sc,aa,ac,pa,pc,rfl,(HI1.1.kp Bu hW hd).to Bu fun y hy=>Nat.le_trans hw5 hy,(HI2.1.kp Bu hW hd).to Bu fun y hy=>Nat.le_trans hw5 hy,(HI3.1.kp Bx hW hd).to Bx fun y hy=>Nat.le_trans hw5 hy⟩,HKR.1 HK6.1 hW⟩
 have d1:(st2.e !=0)=true:=by simp [h0]
 obtain ⟨l_c,xc⟩:=Cp HC5.1.row
 go_upto_region 8 with fail
 have rR:w5.heap[RR]? =some (.cells #[.slice none 0 0,.slice none 0 0,.slice none 0 0] 25 (0,0)):=HC5.1.keep.at HRR0.1 qg;obtain ⟨l_R,xR⟩:=Lr rR
 go_cut [3,4] (fun s3 s4 W=>s3= .complex .f64 st2.re st2.im∧s4= .int .i64 st2.e∧Ac [RR] w5 W∧W.heap[RR]? =some (.cells #[.slice none 0 0,.slice none 0 0,.slice none 0 0] 25 (0,0)))
 case first=>
  exact zpe
 obtain ⟨rfl,rfl,k8,c8⟩:=hcut;generalize wc=w8 at*
 have h8:=zh c8;have hk8:=zh k8;have HCX:=HC5;clear l_c xc HC5 rR l_R xR c8 k8;exact qvd
theorem IA{α:Type}{s:ByteArray}{F:Ox→α}{x:α}(h:((Pm s).bind fun g=>(Kv 60 g).map F)=some x):∃g t,Pm s=some g∧Kv 60 g=some t∧F t=x:=by
 rw [Option.bind_eq_some_iff] at h;obtain ⟨g,hg,h⟩:=h;rw [Option.map_eq_some_iff] at h;obtain ⟨t,ht,h⟩:=h;exact ⟨g,t,hg,ht,h⟩
theorem Vg{w:World}{x:ByteArray}{G:Nat}{f:Nat×Nat}(h:w.heap[G]? =some (.cells #[.string x] 9 f)):Aq Ef w (fun _=>True) [x] (.slice (some ⟨G,0,none⟩) 1 1):=
 ⟨some ⟨G,0,none⟩,1,rfl,Nat.le_refl _,fun _=>⟨G,0,[.string x],rfl,trivial,Ad h,.cons (c:= [.string x]) rfl .nil,fun j u hj=>by rw [Aa h];simpa using hj⟩⟩
def Mv:List ByteArray→List ByteArray→Bool
 | [],[]=>true
 |a::x,b::y=>if same a b then Mv x y else false
 |_,_=>false
theorem Aq.str{w:World}{S:Nat→Prop}{l:List ByteArray}{a:Option Addr}{n cap:Nat}(h:Aq Ef w S l (.slice a n cap)){i:Nat}(hi:i<l.length):∃g o,a=some ⟨g,o,none⟩∧w.cell? ⟨g,o+i,none⟩=some (.string l[i]):=by
 obtain ⟨g,o,cap',c,hv,_,_,hc,hx⟩:=h.get Bu hi;injection hv with h1 _ _
 have hc':c= [.string l[i]]:=hc;subst hc';exact ⟨g,o,h1,by simpa using hx 0 _ rfl⟩
theorem Yh:∀{a b:List ByteArray},a.length≠b.length→Mv a b=false
 | [],[],h=>absurd rfl h
 | [],_::_,_=>rfl
 |_::_,[],_=>rfl
 | a::x,b::y,h=>by
   unfold Mv
   split
   ·exact Yh (by simpa using h)
   rfl
theorem Zu{fu:Nat}{g:Ah}{t:Ox}{w:World}{S:Nat→Prop}{v:Value}(hv:Iu w S g v)(hx:Kv fu g=some t){m1 m2 m3:Nat}(h1:m1=t.info.scalars.length)(h2:m2=t.info.arrays.length)(h3:m3=t.info.params.length):Calls Tryz.prog 9 #[v] w fun r w'=>∃sa sc aa ac pa pc,r= .returned (.tuple #[.agg #[.slice sa m1 sc,.slice aa m2 ac,.slice pa m3 pc],.complex .f64 t.re t.im,.int .i64 t.e])∧Aq Ef w' (fun _=>True) t.info.scalars (.slice sa m1 sc)∧Aq Ef w' (fun _=>True) t.info.arrays (.slice aa m2 ac)∧Aq Hl w' (fun _=>True) t.info.params (.slice pa m3 pc)∧Ac [] w w':=by
 subst h1;subst h2;subst h3;exact jed
def Abh(la lb:List ByteArray)(n:Nat)(w:World)(g:Nat)(j:Value)(W:World):Prop:=∃k:Nat,j= .int .i64 k∧k≤n∧g+k=n+1∧Mv (la.drop k) (lb.drop k)=Mv la lb∧Ac [] w W
theorem Qf{la lb:List ByteArray}{a b:Option Addr}{na nb ca cb:Nat}{S S':Nat→Prop}{w:World}(ha:Aq Ef w S la (.slice a na ca))(hb:Aq Ef w S' lb (.slice b nb cb))(hna:na=la.length)(hnb:nb=lb.length)(hl:la.length≤1000000):Calls Tryz.prog 17 #[.slice a na ca,.slice b nb cb] w fun r w'=>r= .returned (.bool (Mv la lb))∧Ac [] w w':=by
 have HA:=zh ha;have HB:=zh hb;clear ha hb
 by_cases hne:na=nb
 rotate_left
 ·have d0:((na:Int) !=(nb:Int))=true:=by simp;omega
  have d1:(na !=nb)=true:=by simp [hne]
  rw [Yh (by rw [←hna,←hnb];exact hne)];clear hna hnb hl
  go_enter Tryz.func17,Tryz.ntmps17
  go_wp2_with fail
  refine Ap (v:= .bool false) (fun W=>Ac [] w W) jg (fun W hW=> ?_) rfl (fun W hW=> ?_)
  ·exact Le
  exact ⟨rfl,hW⟩
 subst hne;have d0:((na:Int) !=(na:Int))=false:=by simp
 have HNA:=zh hna;have HNB:=zh hnb;have hl2:na≤1000000:=by omega
 clear hna hnb hl
 go_enter Tryz.func17,Tryz.ntmps17
 go_wp2_with fail
 go_loopg [5] (na+1) (fun g j wr=>Abh la lb na w g j wr)
 case atStart=>exact ⟨0,rfl,Nat.zero_le _,rfl,rfl,jg⟩
 obtain ⟨k,rfl,hk1,hk2,hs,hk⟩:=hrel;have HK:=zh hk;clear hk
 by_cases hlt:k<na
 ·have hla:k<la.length:=by rw [←HNA.1];exact hlt
  have hlb:k<lb.length:=by rw [←HNB.1];exact hlt
  obtain ⟨g,o,rfl,hc1⟩:=(HA.1.kp Bu HK.1 qg).str hla;obtain ⟨g2,o2,rfl,hc2⟩:=(HB.1.kp Bu HK.1 qg).str hlb;have lg:=Cd hc1;have lg2:=Cd hc2;rw [List.drop_eq_getElem_cons hla,List.drop_eq_getElem_cons hlb,Mv] at hs;generalize la[k]=x at*
  generalize lb[k]=y at*
  clear hla hlb
  cases gk with
  |zero=>omega
  | succ f=>
   by_cases hxy:x=y
   ·subst hxy;rw [if_pos (Cv.2 rfl)] at hs;have HS:=zh hs;clear hs;have d2:(x.toList==x.toList)=true:=by simp
    have d3:(x.toList !=x.toList)=false:=by simp
    go_upto_region 6 with fail
    go_region
    all_goals
     go_wp2_with fail
     go_roundg f
     case measure=>omega
     case rel=>exact ⟨k+1,by first|rfl|(simp;done)|(simp;omega),by omega,by omega,HS.1,HK.1.trans (fp':= []) jg qg⟩
   have hsf:same x y=false:=by cases h:same x y with|false=>rfl|true=>exact absurd (Cv.1 h) hxy
   rw [if_neg (by rw [hsf];simp)] at hs;have d3:(x.toList==y.toList)=false:=by rw [Ct];exact hsf
   have d4:(x.toList !=y.toList)=true:=by unfold bne;rw [d3];rfl
   have HS:=zh hs;clear hs hxy hsf
   go_upto_region 6 with fail
   go_region
   all_goals
    go_wp2_with fail
    refine Ap (v:= .bool false) (fun W=>Ac [] wr W) jg (fun W hW=> ?_) rfl (fun W hW=> ?_)
    ·exact Le
    exact ⟨by rw [←HS.1],HK.1.trans hW qg⟩
 have hke:k=na:=by omega
 rw [hke,HNA.1,List.drop_length,←HNA.1,HNB.1,List.drop_length] at hs;have HS:=zh hs;clear hs
 go_wp2_with fail
 refine Ap (v:= .bool true) (fun W=>Ac [] wr W) jg (fun W hW=> ?_) rfl (fun W hW=> ?_)
 ·exact Le
 exact ⟨by rw [←HS.1];rfl,HK.1.trans hW qg⟩
theorem Vt{s:ByteArray}{g:Ah}{w:World}(hg:Gl w)(hx:Pm s=some g):Calls Tryz.prog 10 #[.string s] w fun r w'=>∃ra n1 rc fa n2 fc,r= .returned (.agg #[.slice ra n1 rc,.slice fa n2 fc])∧Iu w' (fun g=>w.heap.size≤g) g (.agg #[.slice ra n1 rc,.slice fa n2 fc])∧Ac [] w w':=by
 have HX:=zh hx;have HG:=zh hg;clear hx hg
 go_enter Tryz.func10,Tryz.ntmps10
 go_wp2_with fail
 refine An (fun W=>Ac [] w W∧W.heap[w.heap.size]? =some (.cells #[.slice none 0 0,.slice none 0 0] 33 (0,0))) ⟨jg,jd⟩ ?_;rintro w1 ⟨k1,cR⟩;refine (LC (HG.1.keep k1 qg) HX.1).mono ?_;rintro r w2 ⟨v,rfl,hp,hk⟩;obtain ⟨ra,rc,fa,fc,rfl,h1,h2⟩:=hp;have rR:=hk.at cR qg;have hw1:w.heap.size<w1.heap.size:=Ad cR;have HK1:=zh (k1.trans hk qg);obtain ⟨n1,hn1⟩:∃n,n=g.rules.length:=⟨_,rfl⟩;obtain ⟨n2,hn2⟩:∃n,n=g.funcs.length:=⟨_,rfl⟩;rw [←hn1,←hn2];have HN:=zh (And.intro hn1 hn2);have H1:=zh h1;have H2:=zh h2;clear hn1 hn2 h1 h2 hk k1 cR;obtain ⟨l_R,xR⟩:=Ki rR
 go_wp2_with fail
 refine Ap (v:= .agg #[.slice ra n1 rc,.slice fa n2 fc]) (fun W=>Ac [w.heap.size] w2 W∧W.heap[w.heap.size]? =some (.cells #[.slice ra n1 rc,.slice fa n2 fc] 33 (0,0))) ⟨jg,(je rR l_R)⟩ (fun W hW=> ?_) rfl (fun W hW=> ?_)
 ·obtain ⟨hW,rq⟩:=hW;have q0:=Aa rq 0;have q1:=Aa rq 1;simp at q0 q1;exact YK
 obtain ⟨hW,-⟩:=hW;obtain ⟨hn1,hn2⟩:=HN.1;subst hn1 hn2;have hd:∀y∈ [w.heap.size],¬w1.heap.size≤y:=fun y hy hc=>by simp at hy;subst hy;omega
 exact ⟨ra,_,rc,fa,_,fc,rfl,⟨ra,rc,fa,fc,rfl,(H1.1.kp Dh hW hd).to Dh fun y hy=>Nat.le_trans (Nat.le_of_lt hw1) hy,(H2.1.kp Es hW hd).to Es fun y hy=>Nat.le_trans (Nat.le_of_lt hw1) hy⟩,HK1.1.trans hW qg⟩
theorem RZ:∃g t,Pm ⟨#[123,32,97,91,36,49,93,43,43,59,32,110,32,61,32,110,32,43,32,49,32,125]⟩=some g∧Kv 60 g=some t∧(t.e,t.re,t.im,t.info.scalars,t.info.arrays,t.info.params)=(0,0,0,[bs [110]],[bs [97]],[]):=IA qh
theorem RY:∃g t,Pm ⟨#[66,69,71,73,78,32,123,32,110,101,120,116,32,125]⟩=some g∧Kv 60 g=some t∧(t.e,t.re,t.im,t.info.scalars,t.info.arrays,t.info.params)=(32,4607182418800017408,4621256167635550208,[],[],[]):=IA qh
theorem LJ{w:World}(hg:Gl w):Calls Tryz.prog 11 #[] w fun r w'=>r= .returned (.bool true)∧Ac [] w w':=by
 obtain ⟨gk1,⟨⟨sck1,ark1,psk1⟩,rek1,imk1,ek1⟩,hpk1,hnk1,hFk1⟩:=RZ;simp only [Prod.mk.injEq] at hFk1;obtain ⟨rfl,rfl,rfl,rfl,rfl,rfl⟩:=hFk1;have HPk1:=zh hpk1;have HNk1:=zh hnk1;clear hpk1 hnk1;obtain ⟨gk2,⟨⟨sck2,ark2,psk2⟩,rek2,imk2,ek2⟩,hpk2,hnk2,hFk2⟩:=RY;simp only [Prod.mk.injEq] at hFk2;obtain ⟨rfl,rfl,rfl,rfl,rfl,rfl⟩:=hFk2;have HPk2:=zh hpk2;have HNk2:=zh hnk2;clear hpk2 hnk2;have HG0:=zh hg;have HK0:=zh (Ac.refl [] w);have hs1:Mv [bs [110]] [⟨#[110]⟩]=true:=by kernel_rfl
 have hs2:Mv [bs [97]] [⟨#[97]⟩]=true:=by kernel_rfl
 have hq1:FloatKind.f64.format.order 4607182418800017408 4607182418800017408=some Ordering.eq:=by kernel_rfl
 have hq9:FloatKind.f64.format.order 4621256167635550208 4621256167635550208=some Ordering.eq:=by kernel_rfl
 clear hg
 go_enter Tryz.func11,Tryz.ntmps11
 go_wp2_with fail
 refine (Vt HG0.1 HPk1.1).mono ?_;rintro r e1 ⟨ra,rn,rc,fa,fn,fc,rfl,hv,hk⟩;have HKe1:=zh (HK0.1.trans hk qg);have HG0_e1:=zh (HG0.1.keep hk qg);have HV:=zh hv;clear hv;clear hk HK0 HG0
 go_wp2_with fail
 refine (Zu HV.1 HNk1.1 (m1:=1) (m2:=1) (m3:=0) rfl rfl rfl).mono ?_;rintro r e2 ⟨sak1,sck1,aak1,ack1,pak1,pck1,rfl,hi1,hi2,hi3,hk⟩;have HKe2:=zh (HKe1.1.trans hk qg);have HG0_e2:=zh (HG0_e1.1.keep hk qg);have HSk1:=zh hi1;have HAk1:=zh hi2;have HBk1:=zh hi3;clear hi1 hi2 hi3 HV;clear hk HKe1 HG0_e1
 go_wp2_with fail
 refine An (fun W=>Ac [] e2 W∧W.heap[e2.heap.size]? =some (.cells #[.slice sak1 1 sck1,.slice aak1 1 ack1,.slice pak1 0 pck1] 25 (0,0))) ⟨jg,jb⟩ ?_;rintro w3 ⟨Kw3,cw3_I⟩;have o_I:w.heap.size≤e2.heap.size:=HKe2.1.size;have HKw3:=zh (HKe2.1.trans Kw3 qg);have HG0_w3:=zh (HG0_e2.1.keep Kw3 qg);have HSk1_w3:=zh (HSk1.1.kp Bu Kw3 qg);have HAk1_w3:=zh (HAk1.1.kp Bu Kw3 qg);have HBk1_w3:=zh (HBk1.1.kp Bx Kw3 qg);have Rw3_I:=zh cw3_I;clear Kw3 cw3_I HKe2 HG0_e2 HSk1 HAk1 HBk1;refine (Vt HG0_w3.1 HPk2.1).mono ?_;rintro r e4 ⟨ra,rn,rc,fa,fn,fc,rfl,hv,hk⟩;have Re4_I:=zh (hk.at Rw3_I.1 qg);have HKe4:=zh (HKw3.1.trans hk qg);have HG0_e4:=zh (HG0_w3.1.keep hk qg);have HSk1_e4:=zh (HSk1_w3.1.kp Bu hk qg);have HAk1_e4:=zh (HAk1_w3.1.kp Bu hk qg);have HBk1_e4:=zh (HBk1_w3.1.kp Bx hk qg);have HV:=zh hv;clear hv;clear hk Rw3_I HKw3 HG0_w3 HSk1_w3 HAk1_w3 HBk1_w3;have l_I:=Ad Re4_I.1
 go_wp2_with fail
 clear l_I;refine (Zu HV.1 HNk2.1 (m1:=0) (m2:=0) (m3:=0) rfl rfl rfl).mono ?_;rintro r e5 ⟨sak2,sck2,aak2,ack2,pak2,pck2,rfl,hi1,hi2,hi3,hk⟩;have Re5_I:=zh (hk.at Re4_I.1 qg);have HKe5:=zh (HKe4.1.trans hk qg);have HG0_e5:=zh (HG0_e4.1.keep hk qg);have HSk1_e5:=zh (HSk1_e4.1.kp Bu hk qg);have HAk1_e5:=zh (HAk1_e4.1.kp Bu hk qg);have HBk1_e5:=zh (HBk1_e4.1.kp Bx hk qg);have HSk2:=zh hi1;have HAk2:=zh hi2;have HBk2:=zh hi3;clear hi1 hi2 hi3 HV;clear hk Re4_I HKe4 HG0_e4 HSk1_e4 HAk1_e4 HBk1_e4;obtain ⟨l_I,xI⟩:=Lr Re5_I.1;have l_I_1:e2.heap.size<e5.heap.size+1:=Nat.lt_add_right 1 l_I
 go_wp2_with fail
 refine An (fun W=>Ac [] e5 W∧W.heap[e5.heap.size]? =some (.cells #[.slice sak2 0 sck2,.slice aak2 0 ack2,.slice pak2 0 pck2] 25 (0,0))∧W.heap[e5.heap.size+1]? =some (.cells #[.string ⟨#[110]⟩] 9 (0,0))) ⟨jg,jd,jd⟩ ?_;rintro w6 ⟨Kw6,cw6_I2,cw6_S⟩;have ⟨n_I_I2,n_I2_I⟩:=Ai l_I;have o_I2:w.heap.size≤e5.heap.size:=HKe5.1.size;have ⟨n_I_S,n_S_I⟩:=Ai (Nat.lt_add_right 1 l_I);have n_I2_S:e5.heap.size≠e5.heap.size+1:=by simp
 have n_S_I2:e5.heap.size+1≠e5.heap.size:=by simp
 have o_S:w.heap.size≤e5.heap.size+1:=Nat.le_trans (HKe5.1.size) (Nat.le_add_right _ 1);have Rw6_I:=zh (Kw6.at Re5_I.1 qg);have HKw6:=zh (HKe5.1.trans Kw6 qg);have HG0_w6:=zh (HG0_e5.1.keep Kw6 qg);have HSk1_w6:=zh (HSk1_e5.1.kp Bu Kw6 qg);have HAk1_w6:=zh (HAk1_e5.1.kp Bu Kw6 qg);have HBk1_w6:=zh (HBk1_e5.1.kp Bx Kw6 qg);have HSk2_w6:=zh (HSk2.1.kp Bu Kw6 qg);have HAk2_w6:=zh (HAk2.1.kp Bu Kw6 qg);have HBk2_w6:=zh (HBk2.1.kp Bx Kw6 qg);have Rw6_I2:=zh cw6_I2;have Rw6_S:=zh cw6_S;clear Kw6 cw6_I2 cw6_S l_I l_I_1 xI Re5_I HKe5 HG0_e5 HSk1_e5 HAk1_e5 HBk1_e5 HSk2 HAk2 HBk2;refine (Qf HSk1_w6.1 (Vg Rw6_S.1) rfl rfl qg).mono ?_;rintro r e7 ⟨rfl,hk⟩;have Re7_I:=zh (hk.at Rw6_I.1 qg);have Re7_I2:=zh (hk.at Rw6_I2.1 qg);have Re7_S:=zh (hk.at Rw6_S.1 qg);have HKe7:=zh (HKw6.1.trans hk qg);have HG0_e7:=zh (HG0_w6.1.keep hk qg);have HSk1_e7:=zh (HSk1_w6.1.kp Bu hk qg);have HAk1_e7:=zh (HAk1_w6.1.kp Bu hk qg);have HBk1_e7:=zh (HBk1_w6.1.kp Bx hk qg);have HSk2_e7:=zh (HSk2_w6.1.kp Bu hk qg);have HAk2_e7:=zh (HAk2_w6.1.kp Bu hk qg);have HBk2_e7:=zh (HBk2_w6.1.kp Bx hk qg);clear hk Rw6_I Rw6_I2 Rw6_S HKw6 HG0_w6 HSk1_w6 HAk1_w6 HBk1_w6 HSk2_w6 HAk2_w6 HBk2_w6;obtain ⟨l_I,xI⟩:=Lr Re7_I.1;have l_I2:=Ad Re7_I2.1;have l_S:=Ad Re7_S.1
 go_wp2_with fail
 refine An (fun W=>Ac [] e7 W∧W.heap[e7.heap.size]? =some (.cells #[.string ⟨#[97]⟩] 9 (0,0))) ⟨jg,jb⟩ ?_;rintro w8 ⟨Kw8,cw8_S2⟩;have ⟨n_I_S2,n_S2_I⟩:=Ai l_I;have ⟨n_I2_S2,n_S2_I2⟩:=Ai l_I2;have ⟨n_S_S2,n_S2_S⟩:=Ai l_S;have o_S2:w.heap.size≤e7.heap.size:=HKe7.1.size;have Rw8_I:=zh (Kw8.at Re7_I.1 qg);have Rw8_I2:=zh (Kw8.at Re7_I2.1 qg);have Rw8_S:=zh (Kw8.at Re7_S.1 qg);have HKw8:=zh (HKe7.1.trans Kw8 qg);have HG0_w8:=zh (HG0_e7.1.keep Kw8 qg);have HSk1_w8:=zh (HSk1_e7.1.kp Bu Kw8 qg);have HAk1_w8:=zh (HAk1_e7.1.kp Bu Kw8 qg);have HBk1_w8:=zh (HBk1_e7.1.kp Bx Kw8 qg);have HSk2_w8:=zh (HSk2_e7.1.kp Bu Kw8 qg);have HAk2_w8:=zh (HAk2_e7.1.kp Bu Kw8 qg);have HBk2_w8:=zh (HBk2_e7.1.kp Bx Kw8 qg);have Rw8_S2:=zh cw8_S2;clear Kw8 cw8_S2 l_I xI l_I2 l_S Re7_I Re7_I2 Re7_S HKe7 HG0_e7 HSk1_e7 HAk1_e7 HBk1_e7 HSk2_e7 HAk2_e7 HBk2_e7;refine (Qf HAk1_w8.1 (Vg Rw8_S2.1) rfl rfl qg).mono ?_;rintro r e9 ⟨rfl,hk⟩;have Re9_I:=zh (hk.at Rw8_I.1 qg);have Re9_I2:=zh (hk.at Rw8_I2.1 qg);have Re9_S:=zh (hk.at Rw8_S.1 qg);have Re9_S2:=zh (hk.at Rw8_S2.1 qg);have HKe9:=zh (HKw8.1.trans hk qg);have HG0_e9:=zh (HG0_w8.1.keep hk qg);have HSk1_e9:=zh (HSk1_w8.1.kp Bu hk qg);have HAk1_e9:=zh (HAk1_w8.1.kp Bu hk qg);have HBk1_e9:=zh (HBk1_w8.1.kp Bx hk qg);have HSk2_e9:=zh (HSk2_w8.1.kp Bu hk qg);have HAk2_e9:=zh (HAk2_w8.1.kp Bu hk qg)
 have HBk2_e9:=zh (HBk2_w8.1.kp Bx hk qg);clear hk Rw8_I Rw8_I2 Rw8_S Rw8_S2 HKw8 HG0_w8 HSk1_w8 HAk1_w8 HBk1_w8 HSk2_w8 HAk2_w8 HBk2_w8;have l_I:=Ad Re9_I.1;have l_I2:=Ad Re9_I2.1;have l_S:=Ad Re9_S.1;have l_S2:=Ad Re9_S2.1
 go_wp2_with fail
 refine Ap (v:= .bool true) (fun W=>Ac [] e9 W) jg (fun w10 hW=> ?_) rfl (fun w10 hW=> ?_)
 ·have Kw10:Ac [] e9 w10:=hW;exact Le
 have Kw10:Ac [] e9 w10:=hW;have Rw10_I:=zh (Kw10.at Re9_I.1 qg);have Rw10_I2:=zh (Kw10.at Re9_I2.1 qg);have Rw10_S:=zh (Kw10.at Re9_S.1 qg);have Rw10_S2:=zh (Kw10.at Re9_S2.1 qg);have HKw10:=zh (HKe9.1.trans Kw10 qg);have HG0_w10:=zh (HG0_e9.1.keep Kw10 qg);have HSk1_w10:=zh (HSk1_e9.1.kp Bu Kw10 qg);have HAk1_w10:=zh (HAk1_e9.1.kp Bu Kw10 qg);have HBk1_w10:=zh (HBk1_e9.1.kp Bx Kw10 qg);have HSk2_w10:=zh (HSk2_e9.1.kp Bu Kw10 qg);have HAk2_w10:=zh (HAk2_e9.1.kp Bu Kw10 qg);have HBk2_w10:=zh (HBk2_e9.1.kp Bx Kw10 qg);clear Kw10 l_I l_I2 l_S l_S2 Re9_I Re9_I2 Re9_S Re9_S2 HKe9 HG0_e9 HSk1_e9 HAk1_e9 HBk1_e9 HSk2_e9 HAk2_e9 HBk2_e9;exact ⟨rfl,HKw10.1⟩
end Go.Proofs.YtkfillfkbhbbjaaGreatDoor
