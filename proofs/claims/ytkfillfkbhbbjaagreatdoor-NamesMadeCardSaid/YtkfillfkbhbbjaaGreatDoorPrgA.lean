/- LevelsQ, LevelsR, JoinP, Data, PrgA. -/
import Derived.Test.YtkfillfkbhbbjaaGreatDoorLevelsP
set_option maxRecDepth 100000
set_option maxHeartbeats 4000000
set_option linter.unusedSimpArgs false
set_option linter.unusedVariables false
namespace Go.Proofs.YtkfillfkbhbbjaaGreatDoor
open Go.RowKit
theorem LV{s:ByteArray}{p:Nat}{st:Bq}{w:World}(h:PP s p st w){kd:Int}{tx:ByteArray}{nm fr te:Nat}(ht:Be s st.pos false=some ⟨kd,tx,nm,fr,te⟩)(n0:(kd==0)=false)(hb:AW s st ⟨#[125]⟩=some true):Calls Tryz.prog 163 #[.pointer (some ⟨p,0,none⟩)] w fun r w'=>r= .returned (.tuple #[])∧PP s p st w'∧Ac [p] w w':=by
 have g_p:=h.p;obtain ⟨le1,le2,-⟩:=Eo ht h.le;simp only at le1 le2;have HP0:=zh h;have HK0:=zh (Ac.refl [p] w);have HT:=zh ht;have HB:=zh hb;clear h ht hb
 go_enter Tryz.func163,Tryz.ntmps163
 have l_p:=Ad HP0.1.row
 go_wp2_with fail
 clear l_p;refine (Kl HP0.1 HT.1).mono ?_;rintro r e1 ⟨rfl,hk⟩;have HKe1:=zh (HK0.1.trans hk qg);have HPe1:=zh (HP0.1.keep hk);clear hk HK0 HP0;have l_p:=Ad HPe1.1.row
 go_wp2_with fail
 refine An (fun W=>Ac [] e1 W∧W.heap[e1.heap.size]? =some (.cells #[.int .i64 kd,.string tx,.float .f64 nm,.int .i64 fr,.int .i64 te] 90 (0,0))) ⟨jg,jb⟩ ?_;rintro w2 ⟨Kw2,cw2_T⟩;have ⟨n_p_T,n_T_p⟩:=Ai l_p;have o_T:w.heap.size≤e1.heap.size:=HKe1.1.size;have g_T:14<e1.heap.size:=Nat.lt_trans g_p l_p;have HKw2:=zh (HKe1.1.trans Kw2 qg);have HPw2:=zh (HPe1.1.keep Kw2);have Rw2_T:=zh cw2_T;clear Kw2 cw2_T l_p HKe1 HPe1;refine (Eh HPw2.1).mono ?_;rintro r w' ⟨rfl,hw'⟩;rw [hw'];clear hw';have l_p:=Ad HPw2.1.row;obtain ⟨l_T,xT⟩:=Bv Rw2_T.1
 go_wp2_with fail
 clear l_p l_T xT;refine (Oh HPw2.1 HB.1).mono ?_;rintro r e3 ⟨rfl,hk⟩;have Re3_T:=zh (hk.at Rw2_T.1 qg);have HKe3:=zh (HKw2.1.trans hk qg);have HPe3:=zh (HPw2.1.keep hk);clear hk Rw2_T HKw2 HPw2;have l_p:=Ad HPe3.1.row;have l_T:=Ad Re3_T.1
 go_wp2_with fail
 refine Ap (v:= .tuple #[]) (fun W=>Ac [] e3 W) jg (fun w4 hW=> ?_) rfl (fun w4 hW=> ?_)
 ·have Kw4:Ac [] e3 w4:=hW;exact Le
 have Kw4:Ac [] e3 w4:=hW;have Rw4_T:=zh (Kw4.at Re3_T.1 qg);have HKw4:=zh (HKe3.1.trans Kw4 qg);have HPw4:=zh (HPe3.1.keep Kw4);clear Kw4 l_p l_T Re3_T HKe3 HPe3;exact ⟨rfl,HPw4.1,HKw4.1⟩
theorem PY{s:ByteArray}{p:Nat}{st:Bq}{w:World}(h:PP s p st w){kd:Int}{tx:ByteArray}{nm fr te:Nat}(ht:Be s st.pos false=some ⟨9,tx,nm,fr,te⟩)(hb:AW s st ⟨#[125]⟩=some false)(htx:(tx.toList== [59])=true):Calls Tryz.prog 163 #[.pointer (some ⟨p,0,none⟩)] w fun r w'=>r= .returned (.tuple #[])∧PP s p ⟨te,st.opn,st.ng⟩ w'∧Ac [p] w w':=by
 have g_p:=h.p;obtain ⟨le1,le2,-⟩:=Eo ht h.le;simp only at le1 le2;have HP0:=zh h;have HK0:=zh (Ac.refl [p] w);have HT:=zh ht;have HB:=zh hb;clear h ht hb
 go_enter Tryz.func163,Tryz.ntmps163
 have l_p:=Ad HP0.1.row
 go_wp2_with fail
 clear l_p;refine (Kl HP0.1 HT.1).mono ?_;rintro r e1 ⟨rfl,hk⟩;have HKe1:=zh (HK0.1.trans hk qg);have HPe1:=zh (HP0.1.keep hk);clear hk HK0 HP0;have l_p:=Ad HPe1.1.row
 go_wp2_with fail
 refine jrb ?_;rintro w2 ⟨Kw2,cw2_T⟩;have ⟨n_p_T,n_T_p⟩:=Ai l_p;have o_T:w.heap.size≤e1.heap.size:=HKe1.1.size;have g_T:14<e1.heap.size:=Nat.lt_trans g_p l_p;have HKw2:=zh (HKe1.1.trans Kw2 qg);have HPw2:=zh (HPe1.1.keep Kw2);have Rw2_T:=zh cw2_T;clear Kw2 cw2_T l_p HKe1 HPe1;refine (Eh HPw2.1).mono ?_;rintro r w' ⟨rfl,hw'⟩;rw [hw'];clear hw';have l_p:=Ad HPw2.1.row;obtain ⟨l_T,xT⟩:=Bv Rw2_T.1
 go_wp2_with fail
 clear l_p l_T xT;refine (Oh HPw2.1 HB.1).mono ?_;rintro r e3 ⟨rfl,hk⟩;have Re3_T:=zh (hk.at Rw2_T.1 qg);have HKe3:=zh (HKw2.1.trans hk qg);have HPe3:=zh (HPw2.1.keep hk);clear hk Rw2_T HKw2 HPw2;obtain ⟨l_p,xp⟩:=JO HPe3.1.row;obtain ⟨l_T,xT⟩:=Bv Re3_T.1
 go_wp2_with fail
 refine Cq (v:= .tuple #[]) (fun W=>Ac [p] e3 W∧W.heap[p]? =some (.cells #[.string s,.int .i64 te,.int .i64 st.opn,.bool st.ng,.int .i64 0,.complex .f64 0 0] 87 (0,0))) ⟨jg,(zc HPe3.1.row l_p)⟩ (fun w4 hW=> ?_) rfl (fun w4 hW=> ?_)
 ·obtain ⟨Kw4,cw4_p⟩:=hW;exact Le
 obtain ⟨Kw4,cw4_p⟩:=hW;have Rw4_T:=zh (Kw4.at Re3_T.1 ql);have HKw4:=zh (HKe3.1.trans Kw4 qg);have HPw4:Hd (PP s p ⟨te,st.opn,st.ng⟩ w4):=zh (HPe3.1.upd Kw4 YV cw4_p (by first|assumption|exact HPe3.1.le) HPe3.1.ob);clear Kw4 cw4_p l_p xp l_T xT Re3_T HKe3 HPe3;exact ⟨rfl,HPw4.1,HKw4.1⟩
theorem VE{s:ByteArray}{p:Nat}{st st':Bq}{w:World}(h:PP s p st w)(hx:VF s st=some st'):Calls Tryz.prog 163 #[.pointer (some ⟨p,0,none⟩)] w fun r w'=>r= .returned (.tuple #[])∧PP s p st' w'∧Ac [p] w w':=by
 unfold VF at hx
 cases ht:Be s st.pos false with
 |none=>rw [ht] at hx;simp at hx
 | some t=>
  rw [ht] at hx;obtain ⟨kd,tx,nm,fr,te⟩:=t;simp only [Option.bind_eq_bind,Option.bind_some] at hx
  by_cases h0:kd=0
  ·subst h0;rw [if_pos rfl] at hx
   cases hx
  rw [if_neg h0] at hx
  cases hb:AW s st (bs [125]) with
  |none=>rw [hb] at hx;simp at hx
  | some b=>
   rw [hb] at hx;simp only [Option.bind_some] at hx
   cases b with
   |true=>
    simp only [if_true,Option.some.injEq] at hx;subst hx;exact LV h ht (beq_false_of_ne h0) hb
   | false=>
    simp only [Bool.false_eq_true,if_false] at hx
    split at hx
    ·rename_i hc;obtain rfl:=Option.some.inj hx;obtain ⟨rfl,hs⟩:=hc;refine PY (kd:=0) h ht hb ?_;rw [←Ct] at hs
     rwa [show (bs [59]).toList= [59] from by rw [bs,ByteArray.toList_mk]] at hs
    cases hx
theorem SI{s:ByteArray}{p:Nat}{st st2 st3:Bq}{n:Af}{kd:Int}{tx:ByteArray}{nm fr te:Nat}(ht:Be s st.pos true=some ⟨kd,tx,nm,fr,te⟩)(hb:Dv s st ⟨#[123]⟩=some ())(hn_if:Dv s st ⟨#[105,102]⟩=some ())(hn_while:Dv s st ⟨#[119,104,105,108,101]⟩=some ())(hn_do:Dv s st ⟨#[100,111]⟩=some ())(hn_for:Dv s st ⟨#[102,111,114]⟩=some ())(hs:Aw s p st st2 n 165)(he:VF s st2=some st3):Aw s p st st3 n 127:=by
 intro w h;have g_p:=h.p;have HP0:=zh h;have HK0:=zh (Ac.refl [p] w);have HT:=zh ht;have HB:=zh hb;have HS1:=zh hs;have HE:=zh he;have HN_if:=zh (Co hn_if);have HN_while:=zh (Co hn_while);have HN_do:=zh (Co hn_do);have HN_for:=zh (Co hn_for);clear h ht hb hs he hn_if hn_while hn_do hn_for
 go_enter Tryz.func127,Tryz.ntmps127
 have l_p:=Ad HP0.1.row
 go_wp2_with fail
 refine MR ?_;rintro w1 ⟨Kw1,cw1_R⟩;have ⟨n_p_R,n_R_p⟩:=Ai l_p;have o_R:w.heap.size≤w.heap.size:=Nat.le_refl _;have g_R:14<w.heap.size:=Nat.lt_trans g_p l_p;have HKw1:=zh (HK0.1.trans Kw1 qg);have HPw1:=zh (HP0.1.keep Kw1);have Rw1_R:=zh cw1_R;clear Kw1 cw1_R l_p HK0 HP0;refine YX ?_;rintro r e2 ⟨rfl,hk⟩;have Re2_R:=zh (hk.at Rw1_R.1 qg);have HKe2:=zh (HKw1.1.trans hk qg);have HPe2:=zh (HPw1.1.keep hk);clear hk Rw1_R HKw1 HPw1;have l_p:=Ad HPe2.1.row;have l_R:=Ad Re2_R.1
 go_wp2_with fail
 refine qtb ?_;rintro w3 ⟨Kw3,cw3_T⟩;have ⟨n_p_T,n_T_p⟩:=Ai l_p;have ⟨n_R_T,n_T_R⟩:=Ai l_R;have o_T:w.heap.size≤e2.heap.size:=HKe2.1.size;have g_T:14<e2.heap.size:=Nat.lt_trans g_p l_p;have Rw3_R:=zh (Kw3.at Re2_R.1 qg);have HKw3:=zh (HKe2.1.trans Kw3 qg);have HPw3:=zh (HPe2.1.keep Kw3);have Rw3_T:=zh cw3_T;clear Kw3 cw3_T l_p l_R Re2_R HKe2 HPe2;refine (GA HPw3.1 HB.1).mono ?_;rintro r e4 ⟨rfl,hk⟩;have Re4_R:=zh (hk.at Rw3_R.1 qg);have Re4_T:=zh (hk.at Rw3_T.1 qg);have HKe4:=zh (HKw3.1.trans hk qg);have HPe4:=zh (HPw3.1.keep hk);clear hk Rw3_R Rw3_T HKw3 HPw3;have l_p:=Ad HPe4.1.row;have l_R:=Ad Re4_R.1;have l_T:=Ad Re4_T.1
 go_wp2_with fail
 clear l_p l_R l_T;refine (Bt HPe4.1 HN_if.1).mono ?_;rintro r e5 ⟨rfl,hp,hk⟩;have Re5_R:=zh (hk.at Re4_R.1 qk);have Re5_T:=zh (hk.at Re4_T.1 ql);have HKe5:=zh (HKe4.1.trans hk qg);have HPne5:=zh hp;clear hp;clear hk Re4_R Re4_T HKe4 HPe4;have l_p:=Ad HPne5.1.row;have l_R:=Ad Re5_R.1;have l_T:=Ad Re5_T.1
 go_wp2_with fail
 clear l_p l_R l_T;refine (Bt HPne5.1 HN_while.1).mono ?_;rintro r e6 ⟨rfl,hp,hk⟩;have Re6_R:=zh (hk.at Re5_R.1 qk);have Re6_T:=zh (hk.at Re5_T.1 ql);have HKe6:=zh (HKe5.1.trans hk qg);have HPne6:=zh hp;clear hp;clear hk Re5_R Re5_T HKe5 HPne5;have l_p:=Ad HPne6.1.row;have l_R:=Ad Re6_R.1;have l_T:=Ad Re6_T.1
 go_wp2_with fail
 clear l_p l_R l_T;refine (Bt HPne6.1 HN_do.1).mono ?_;rintro r e7 ⟨rfl,hp,hk⟩;have Re7_R:=zh (hk.at Re6_R.1 qk);have Re7_T:=zh (hk.at Re6_T.1 ql);have HKe7:=zh (HKe6.1.trans hk qg);have HPne7:=zh hp;clear hp;clear hk Re6_R Re6_T HKe6 HPne6;have l_p:=Ad HPne7.1.row;have l_R:=Ad Re7_R.1;have l_T:=Ad Re7_T.1
 go_wp2_with fail
 clear l_p l_R l_T;refine (Bt HPne7.1 HN_for.1).mono ?_;rintro r e8 ⟨rfl,hp,hk⟩;have Re8_R:=zh (hk.at Re7_R.1 qk);have Re8_T:=zh (hk.at Re7_T.1 ql);have HKe8:=zh (HKe7.1.trans hk qg);have HPne8:=zh hp;clear hp;clear hk Re7_R Re7_T HKe7 HPne7;have l_p:=Ad HPne8.1.row;have l_R:=Ad Re8_R.1;have l_T:=Ad Re8_T.1
 go_wp2_with fail
 clear l_p l_R l_T;refine (HS1.1 _ HPne8.1).mono ?_;rintro r e9 ⟨v,rfl,hn,hp,hk⟩;have Re9_R:=zh (hk.at Re8_R.1 qk);have Re9_T:=zh (hk.at Re8_T.1 ql);have HKe9:=zh (HKe8.1.trans hk qg);have HPne9:=zh hp;have ne9:=zh hn.seg;have o_n:w.heap.size≤e8.heap.size:=HKe8.1.size;have ns_n_p:¬(Dm e8.heap.size e9.heap.size) (p):=fun h=>Nat.not_lt_of_le h.1 (Ad HPne8.1.row)
 have ns_n_R:¬(Dm e8.heap.size e9.heap.size) (w.heap.size):=fun h=>Nat.not_lt_of_le h.1 (Ad Re8_R.1)
 have ns_n_T:¬(Dm e8.heap.size e9.heap.size) (e2.heap.size):=fun h=>Nat.not_lt_of_le h.1 (Ad Re8_T.1)
 have up_n:∀g,(Dm e8.heap.size e9.heap.size) g→g<e9.heap.size:=fun _ h=>h.2
 have dn_n:∀g,(Dm e8.heap.size e9.heap.size) g→w.heap.size≤g:=fun _ h=>Nat.le_trans o_n h.1
 obtain ⟨nt,nm,na,nl,nc,nr,ni,rfl,-,-⟩:=hn.shape;clear hn hp;clear hk Re8_R Re8_T HKe8 HPne8;have l_p:=Ad HPne9.1.row;have l_R:=Ad Re9_R.1;have l_T:=Ad Re9_T.1
 go_wp2_with fail
 refine An (fun W=>Ac [] e9 W∧W.heap[e9.heap.size]? =some (.cells #[.int .i64 n.kind,.string nt,.float .f64 nm,.slice na nl nc,.complex .f64 nr ni] 50 (0,0))) ⟨jg,jb⟩ ?_;rintro w10 ⟨Kw10,cw10_B⟩;have ⟨n_p_B,n_B_p⟩:=Ai l_p;have ⟨n_R_B,n_B_R⟩:=Ai l_R;have ⟨n_T_B,n_B_T⟩:=Ai l_T;have o_B:w.heap.size≤e9.heap.size:=HKe9.1.size;have g_B:14<e9.heap.size:=Nat.lt_trans g_p l_p;have ns_n_B:¬(Dm e8.heap.size e9.heap.size) (e9.heap.size):=fun h=>Nat.not_lt_of_le ((Nat.le_refl e9.heap.size)) (up_n _ h)
 have Rw10_R:=zh (Kw10.at Re9_R.1 qg);have Rw10_T:=zh (Kw10.at Re9_T.1 qg);have HKw10:=zh (HKe9.1.trans Kw10 qg);have HPw10:=zh (HPne9.1.keep Kw10);have nw10:=zh (ne9.1.kp Kw10 qg);have us_nw10:=Nat.le_trans (Nat.le_refl e9.heap.size) Kw10.size;have Rw10_B:=zh cw10_B;clear Kw10 cw10_B l_p l_R l_T Re9_R Re9_T HKe9 HPne9 ne9;refine (VE HPw10.1 HE.1).mono ?_;rintro r e11 ⟨rfl,hp,hk⟩;have Re11_R:=zh (hk.at Rw10_R.1 qk);have Re11_T:=zh (hk.at Rw10_T.1 ql);have Re11_B:=zh (hk.at Rw10_B.1 qq);have HKe11:=zh (HKw10.1.trans hk qg);have ne11:=zh (nw10.1.kp hk YL);have us_ne11:=Nat.le_trans us_nw10 hk.size;have HPne11:=zh hp;clear hp;clear hk Rw10_R Rw10_T Rw10_B HKw10 nw10 us_nw10 HPw10;have l_p:=Ad HPne11.1.row;obtain ⟨l_R,xR⟩:=Bv Re11_R.1;have l_T:=Ad Re11_T.1;obtain ⟨l_B,xB⟩:=Bv Re11_B.1
 go_wp2_with fail
 refine Ap (v:= .agg #[.int .i64 n.kind,.string nt,.float .f64 nm,.slice na nl nc,.complex .f64 nr ni]) (fun W=>Ac [w.heap.size] e11 W∧W.heap[w.heap.size]? =some (.cells #[.int .i64 n.kind,.string nt,.float .f64 nm,.slice na nl nc,.complex .f64 nr ni] 50 (0,0))) ⟨jg,(zc Re11_R.1 l_R)⟩ (fun w12 hW=> ?_) rfl (fun w12 hW=> ?_)
 ·obtain ⟨Kw12,cw12_R⟩:=hW;have q0:=Aa cw12_R 0;have q1:=Aa cw12_R 1;have q2:=Aa cw12_R 2;have q3:=Aa cw12_R 3;have q4:=Aa cw12_R 4;simp at q0 q1 q2 q3 q4;exact UK
 obtain ⟨Kw12,cw12_R⟩:=hW;have Rw12_T:=zh (Kw12.at Re11_T.1 jy);have Rw12_B:=zh (Kw12.at Re11_B.1 qx);have HKw12:=zh (HKe11.1.trans Kw12 zp);have HPw12:=zh (HPne11.1.keepN Kw12 jr zt);have nw12:=zh (ne11.1.kp Kw12 qw);have us_nw12:=Nat.le_trans us_ne11 Kw12.size;have Rw12_R:=zh cw12_R;clear Kw12 cw12_R l_p l_R xR l_T l_B xB Re11_T Re11_B HKe11 HPne11 ne11 us_ne11 Re11_R;exact ⟨_,rfl,nw12.1.to dn_n,HPw12.1,HKw12.1⟩
def WJ(s:ByteArray)(p R B:Nat)(w:World)(c0 c1 c2 c4:Value)(l:List Af)(st:Bq)(W:World):Prop:=
 ∃(v:Value) (T:Nat→Prop) (U:Nat),Ax Kt 50 5 W w.heap.size T l v∧(∀x,T x→x<U)∧U≤W.heap.size∧(∀x,T x→w.heap.size≤x)∧¬T p∧¬T R∧¬T B∧PP s p st W∧Ac [p] w W∧
  W.heap[R]? =some (.cells #[.int .i64 0,.string ⟨#[]⟩,.float .f64 0,.slice none 0 0,.complex .f64 0 0] 50 (0,0))∧W.heap[B]? =some (.cells #[c0,c1,c2,v,c4] 50 (0,0))
def YD(s:ByteArray)(p R B:Nat)(w:World)(c0 c1 c2 c4:Value)(rec:Zx)(l':List Af)(st':Bq)(g:Nat)(W:World):Prop:=
 ∃(l:List Af) (st:Bq),Ry s rec g l st=some (l',st')∧l.length+g≤60∧WJ s p R B w c0 c1 c2 c4 l st W
theorem Xv{ops:Array Oper}{o:Oper}{a:Act}{w:World}{K:Act→World→Prop}{Q:Exit→Act→World→Prop}{Z:Prop}(hgd:o.guard=none)(s y:Operand)(ho:o.op= .call {callee:= .builtin .append,args:= #[s,y],argTypes:= #[47,47]}){b G cap:Nat}{T S:Nat→Prop}{l:List Af}{x:Af}{v c0 c1 c2 c3 c4:Value}(hs:a.eval s=v)(hy:a.eval y= .slice (some ⟨G,0,none⟩) 1 cap)(hO:Ax Kt 50 5 w b T l v)(hG:w.heap[G]? =some (.cells #[c0,c1,c2,c3,c4] 50 (0,0)))(hm:Au w S x (.agg #[c0,c1,c2,c3,c4]))(hd:∀g,S g→¬T g)(hS:∀g,S g→g<w.heap.size)(hT:∀g,T g→g<w.heap.size)(hb:b≤w.heap.size)(hl:l.length≤400000)(h:∀v' w' fl,(∀x∈fl,T x)→Ac fl w w'→Ax Kt 50 5 w' b (fun g=>T g∨S g∨(w.heap.size≤g∧g<w'.heap.size)) (l++ [x]) v'→K (a.put o.dst v') w'):if Region.wanted o (yielded ops a.tmps)=true then Oper.wp Tryz.prog o a w K Q else Z:=by
 obtain ⟨i,hi,hz,hsz,hby⟩:=Wo;obtain ⟨xs,hown,ht,hx⟩:=hO;refine step_append_lies w hgd s y 47 ho b 50 i _ 5 72 Tryz.underlying47 hi hz hsz hby rfl zi v l.length xs hs hown ⟨G,0,none⟩ 1 cap [c0,c1,c2,c3,c4] hy rfl (fun j u hj=> ?_) (Dr.one (S:=S) (a:=x) ⟨rfl,hm⟩) jh zw jh hb _ rfl fun g cp w1 h1 h2 h3 h4=> ?_
 ·have:=Aa hG j;exact YJ
 obtain ⟨q1,fl,q2,q3⟩:=Sg Dr hown ht hx (c:= [c0,c1,c2,c3,c4]) ⟨rfl,hm⟩ hd hS hT h1 h2 h3 h4;exact h _ _ fl q2 q3 q1
theorem QW{s:ByteArray}{p:Nat}{st st1 st2 st3 st4:Bq}{l':List Af}{rec:Zx}{kd:Int}{tx:ByteArray}{nm fr te:Nat}(hrec:∀st st' n,rec .stmt st=some (n,st')→Aw s p st st' n 127)(ht:Be s st.pos false=some ⟨kd,tx,nm,fr,te⟩)(hw:Ti s st ⟨#[123]⟩=some st1)(hl:Sp s st1 ⟨#[59]⟩=some st2)(hx:Ry s rec 50 [] st2=some (l',st3))(hv:Ti s st3 ⟨#[125]⟩=some st4):Aw s p st st4 (.mk 30 ⟨#[]⟩ 0 l' (Ag s fr).1 (Ag s fr).2) 107:=by
 intro w h;have g_p:=h.p;have g_0:14<w.heap.size:=Nat.lt_trans g_p (Ad h.row);have HP0:=zh h;have HK0:=zh (Ac.refl [p] w);have HT:=zh ht;have HW:=zh hw;have HL:Hd (Lz s ⟨#[59]⟩ (s.size+2) st1=some st2):=zh hl;have HRec:=zh hrec;have HG:=zh hx;have HV:=zh hv;clear h hrec ht hw hl hx hv
 go_enter Tryz.func107,Tryz.ntmps107
 have l_p:=Ad HP0.1.row
 go_wp2_with fail
 refine MR ?_;rintro w1 ⟨Kw1,cw1_R⟩;have ⟨n_p_R,n_R_p⟩:=Ai l_p;have o_R:w.heap.size≤w.heap.size:=Nat.le_refl _;have g_R:14<w.heap.size:=Nat.lt_trans g_p l_p;have HKw1:=zh (HK0.1.trans Kw1 qg);have HPw1:=zh (HP0.1.keep Kw1);have Rw1_R:=zh cw1_R;clear Kw1 cw1_R l_p HK0 HP0;refine YX ?_;rintro r e2 ⟨rfl,hk⟩;have Re2_R:=zh (hk.at Rw1_R.1 qg);have HKe2:=zh (HKw1.1.trans hk qg);have HPe2:=zh (HPw1.1.keep hk);clear hk Rw1_R HKw1 HPw1;have l_p:=Ad HPe2.1.row;have l_p_1:p<e2.heap.size+1:=Nat.lt_add_right 1 l_p;have l_R:=Ad Re2_R.1;have l_R_1:w.heap.size<e2.heap.size+1:=Nat.lt_add_right 1 l_R
 go_wp2_with fail
 refine An (fun W=>Ac [] e2 W∧W.heap[e2.heap.size]? =some (.cells #[.int .i64 kd,.string tx,.float .f64 nm,.int .i64 fr,.int .i64 te] 90 (0,0))∧W.heap[e2.heap.size+1]? =some (.cells #[.int .i64 30,.string ⟨#[]⟩,.float .f64 0,.slice none 0 0,.complex .f64 (Ag s fr).1 (Ag s fr).2] 50 (0,0))) ⟨jg,jd,jd⟩ ?_;rintro w3 ⟨Kw3,cw3_T,cw3_B⟩;have ⟨n_p_T,n_T_p⟩:=Ai l_p;have ⟨n_R_T,n_T_R⟩:=Ai l_R;have o_T:w.heap.size≤e2.heap.size:=HKe2.1.size;have g_T:14<e2.heap.size:=Nat.lt_trans g_p l_p;have ⟨n_p_B,n_B_p⟩:=Ai (Nat.lt_add_right 1 l_p);have ⟨n_R_B,n_B_R⟩:=Ai (Nat.lt_add_right 1 l_R);have n_T_B:e2.heap.size≠e2.heap.size+1:=by simp
 have n_B_T:e2.heap.size+1≠e2.heap.size:=by simp
 have o_B:w.heap.size≤e2.heap.size+1:=Nat.le_trans (HKe2.1.size) (Nat.le_add_right _ 1);have g_B:14<e2.heap.size+1:=Nat.lt_trans g_p (Nat.lt_add_right 1 l_p);have Rw3_R:=zh (Kw3.at Re2_R.1 qg);have HKw3:=zh (HKe2.1.trans Kw3 qg);have HPw3:=zh (HPe2.1.keep Kw3);have Rw3_T:=zh cw3_T;have Rw3_B:=zh cw3_B;clear Kw3 cw3_T cw3_B l_p l_p_1 l_R l_R_1 Re2_R HKe2 HPe2;refine (Uz HPw3.1 HW.1).mono ?_;rintro r e4 ⟨rfl,hp,hk⟩;have Re4_R:=zh (hk.at Rw3_R.1 qk);have Re4_T:=zh (hk.at Rw3_T.1 ql);have Re4_B:=zh (hk.at Rw3_B.1 qq);have HKe4:=zh (HKw3.1.trans hk qg);have HPne4:=zh hp;clear hp;clear hk Rw3_R Rw3_T Rw3_B HKw3 HPw3;have l_p:=Ad HPne4.1.row;have l_R:=Ad Re4_R.1;have l_T:=Ad Re4_T.1;have l_B:=Ad Re4_B.1
 go_wp2_with fail
 clear l_p l_R l_T l_B;refine (Oe HPne4.1 HL.1).mono ?_;rintro r e5 ⟨rfl,hp,hk⟩;have Re5_R:=zh (hk.at Re4_R.1 qk);have Re5_T:=zh (hk.at Re4_T.1 ql);have Re5_B:=zh (hk.at Re4_B.1 qq);have HKe5:=zh (HKe4.1.trans hk qg);have HPne5:=zh hp;clear hp;clear hk Re4_R Re4_T Re4_B HKe4 HPne4;have l_p:=Ad HPne5.1.row;have l_R:=Ad Re5_R.1;have l_T:=Ad Re5_T.1;have l_B:=Ad Re5_B.1
 go_wp2_with fail
 clear l_p l_R l_T l_B
 go_loopg [] 50 (fun g wr=>YD s p w.heap.size (e2.heap.size+1) w (.int .i64 30) (.string ⟨#[]⟩) (.float .f64 0) (.complex .f64 (Ag s fr).1 (Ag s fr).2) rec l' st3 g wr)
 case atStart=>exact ⟨[],st2,HG.1,by simp,_,fun _=>False,0,Ax.nil,fun _ h=>h.elim,Nat.zero_le _,fun _ h=>h.elim,fun h=>h,fun h=>h,fun h=>h,HPne5.1,HKe5.1,Re5_R.1,Re5_B.1⟩
 clear HG;obtain ⟨l,st1,hG,hlen,v,T,U,hl,up_l,us_l,dn_l,ns_l_p,ns_l_R,ns_l_B,hp,hk,hR,hB⟩:=hrel;obtain ⟨ka,kc,rfl,-⟩:=hl.slice;have HL1:=zh hl;have HPr:=zh hp;have HKr:=zh hk;have RR:=zh hR;have RB:=zh hB;clear hl hp hk hR hB
 cases gk with
 |zero=>simp [Ry] at hG
 | succ f=>
  rw [Ry] at hG
  cases ho:AW s st1 (bs [125]) with
  |none=>rw [ho] at hG;simp at hG
  | some b=>
   rw [ho] at hG;simp only [Option.bind_eq_bind,Option.bind_some] at hG;have HB:Hd (AW s st1 ⟨#[125]⟩=some b):=zh ho;clear ho
   cases b with
   |true=>
    simp only [Option.some.injEq,Prod.mk.injEq,if_true] at hG;obtain ⟨rfl,rfl⟩:=hG;have l_p:=Ad HPr.1.row;have l_R:=Ad RR.1;have l_B:=Ad RB.1
    go_wp2_with fail
    clear l_p l_R l_B;refine (Eh HPr.1).mono ?_;rintro r w' ⟨rfl,hw'⟩;rw [hw'];clear hw';have l_p:=Ad HPr.1.row;have l_R:=Ad RR.1;have l_B:=Ad RB.1
    go_wp2_with fail
    clear l_p l_R l_B;refine (Oh HPr.1 HB.1).mono ?_;rintro r e51 ⟨rfl,hk⟩;have Re51_R:=zh (hk.at RR.1 qg);have Re51_B:=zh (hk.at RB.1 qg);have HKe51:=zh (HKr.1.trans hk qg);have HPe51:=zh (HPr.1.keep hk);have le51:=zh (Ax.kp Dr HL1.1 hk qg);have us_le51:=Nat.le_trans us_l hk.size;clear hk RR RB HKr HPr HL1 us_l;have l_p:=Ad HPe51.1.row;have l_R:=Ad Re51_R.1;have l_B:=Ad Re51_B.1
    go_wp2_with fail
    clear l_p l_R l_B;refine (Uz HPe51.1 HV.1).mono ?_;rintro r e52 ⟨rfl,hp,hk⟩;have Re52_R:=zh (hk.at Re51_R.1 qk);have Re52_B:=zh (hk.at Re51_B.1 qq);have HKe52:=zh (HKe51.1.trans hk qg);have le52:=zh (Ax.kp Dr le51.1 hk ZY);have us_le52:=Nat.le_trans us_le51 hk.size;have HPne52:=zh hp;clear hp;clear hk Re51_R Re51_B HKe51 le51 us_le51 HPe51;have l_p:=Ad HPne52.1.row;obtain ⟨l_R,xR⟩:=Bv Re52_R.1;obtain ⟨l_B,xB⟩:=Bv Re52_B.1
    go_wp2_with fail
    refine Ap (v:= .agg #[.int .i64 30,.string ⟨#[]⟩,.float .f64 0,.slice ka l.length kc,.complex .f64 (Ag s fr).1 (Ag s fr).2]) (fun W=>Ac [w.heap.size] e52 W∧W.heap[w.heap.size]? =some (.cells #[.int .i64 30,.string ⟨#[]⟩,.float .f64 0,.slice ka l.length kc,.complex .f64 (Ag s fr).1 (Ag s fr).2] 50 (0,0))) ⟨jg,(zc Re52_R.1 l_R)⟩ (fun w53 hW=> ?_) rfl (fun w53 hW=> ?_)
    ·obtain ⟨Kw53,cw53_R⟩:=hW;have q0:=Aa cw53_R 0;have q1:=Aa cw53_R 1;have q2:=Aa cw53_R 2;have q3:=Aa cw53_R 3;have q4:=Aa cw53_R 4;simp at q0 q1 q2 q3 q4;exact UK
    obtain ⟨Kw53,cw53_R⟩:=hW;have Rw53_B:=zh (Kw53.at Re52_B.1 qx);have HKw53:=zh (HKe52.1.trans Kw53 zp);have HPw53:=zh (HPne52.1.keepN Kw53 jr zt);have lw53:=zh (Ax.kp Dr le52.1 Kw53 (by simp [ns_l_R]));have us_lw53:=Nat.le_trans us_le52 Kw53.size;have Rw53_R:=zh cw53_R;clear Kw53 cw53_R l_p l_R xR l_B xB Re52_B HKe52 HPne52 le52 us_le52 Re52_R;exact ⟨_,rfl,.mk ((Im lw53.1).to dn_l),HPw53.1,HKw53.1⟩
   | false=>
    simp only [Bool.false_eq_true,if_false] at hG
    cases hm:rec .stmt st1 with
    |none=>rw [hm] at hG;simp at hG
    | some y=>
     rw [hm] at hG;obtain ⟨m,st2⟩:=y;simp only [Option.bind_some] at hG
     cases hy:Sp s st2 (bs [59]) with
     |none=>rw [hy] at hG;simp at hG
     | some st4=>
      rw [hy] at hG;simp only [Option.bind_some] at hG;have HM:=zh (HRec.1 _ _ _ hm);have HF:=zh hG;have HY:Hd (Lz s ⟨#[59]⟩ (s.size+2) st2=some st4):=zh hy;clear hm hG hy;have l_p:=Ad HPr.1.row;have l_R:=Ad RR.1;have l_B:=Ad RB.1
      go_wp2_with fail
      clear l_p l_R l_B;refine (Eh HPr.1).mono ?_;rintro r w' ⟨rfl,hw'⟩;rw [hw'];clear hw';have l_p:=Ad HPr.1.row;have l_R:=Ad RR.1;have l_B:=Ad RB.1
      go_wp2_with fail
      clear l_p l_R l_B;refine (Oh HPr.1 HB.1).mono ?_;rintro r e51 ⟨rfl,hk⟩;have Re51_R:=zh (hk.at RR.1 qg);have Re51_B:=zh (hk.at RB.1 qg);have HKe51:=zh (HKr.1.trans hk qg);have HPe51:=zh (HPr.1.keep hk);have le51:=zh (Ax.kp Dr HL1.1 hk qg);have us_le51:=Nat.le_trans us_l hk.size;clear hk RR RB HKr HPr HL1 us_l;have l_p:=Ad HPe51.1.row;obtain ⟨l_R,xR⟩:=Bv Re51_R.1;obtain ⟨l_B,xB⟩:=Bv Re51_B.1
      go_upto_region 6 with fail
      have HCm:=zh (Wu HM.1 HPe51.1)
      go_cut [] (fun W=>WJ s p w.heap.size (e2.heap.size+1) w (.int .i64 30) (.string ⟨#[]⟩) (.float .f64 0) (.complex .f64 (Ag s fr).1 (Ag s fr).2) (l++ [m]) ⟨st2.pos,st2.opn,st2.ng⟩ W)
      case first=>
       go_region_law (first
        |(refine Xv rfl (.tmp 25) (.tmp 28) rfl rfl rfl (Ax.kp Dr hO (Ac.alloc [] u_ _) qg) (Ca u_ _) (hn.keep0 (Ac.alloc [] u_ _)) (fun g hs ht=>Nat.not_lt_of_le hs.1 (Nat.lt_of_lt_of_le (up_l g ht) us_le51)) (fun g hs=>Nat.lt_of_lt_of_le hs.2 (Ac.alloc [] u_ _).size) (fun g ht=>Nat.lt_of_lt_of_le (up_l g ht) (Nat.le_trans us_le51 (Nat.le_trans hk.size (Ac.alloc [] u_ _).size))) (Nat.le_trans (HKe51.1.size) (Nat.le_trans hk.size (Ac.alloc [] u_ _).size)) jh ?_;rintro va wa fl hfl hka hown;obtain ⟨ka2,kc2,hva,-⟩:=hown.slice;generalize (l++ [m]).length=kn at hva;subst hva;have s_B:=hka.at (Ed r_B) (fun h=>ns_l_B (hfl _ h));have s3:=Aa s_B 3;have sf3:=Ab s_B 3;have l_B2:=Ad s_B;simp at s3)
        |(refine Bd (f:=127) (vals:= #[.pointer (some ⟨p,0,none⟩)]) rfl _ rfl qh (HCm.1 _ jg) ?_;rintro v u_ ⟨hn,hp,hk⟩;obtain ⟨mt,mm,ma,ml,mc,mr,mi,rfl,-,-⟩:=hn.shape;have r_B:=hk.at Re51_B.1 qq;have r_R:=hk.at Re51_R.1 qk;have hO:=Ax.kp Dr le51.1 hk ZY;have l_B:=Ad r_B;have zB_0:=Aa r_B 0;have zfB_0:=Ab r_B 0;have zB_1:=Aa r_B 1;have zfB_1:=Ab r_B 1;have zB_2:=Aa r_B 2;have zfB_2:=Ab r_B 2;have zB_3:=Aa r_B 3;have zfB_3:=Ab r_B 3;have zB_4:=Aa r_B 4;have zfB_4:=Ab r_B 4;simp at zB_0 zB_1 zB_2 zB_3 zB_4))
       all_goals
        go_wp2_with fail
        go_meet
        refine Ch (fun W=>Ac [e2.heap.size+1] wa W∧W.heap[e2.heap.size+1]? =some (.cells #[.int .i64 30,.string ⟨#[]⟩,.float .f64 0,.slice ka2 kn kc2,.complex .f64 (Ag s fr).1 (Ag s fr).2] 50 (0,0))) ⟨jg,(by simp only [Nn,reduceIte,Option.map_some,Obj.put,s_B]<;>rfl)⟩ ?_;rintro W ⟨hkW,cB⟩;have hua:=Ac.alloc [] u_ (.cells #[.int .i64 m.kind,.string mt,.float .f64 mm,.slice ma ml mc,.complex .f64 mr mi] 50);have hsB:e2.heap.size+1<u_.heap.size:=l_B
        exact ⟨_,_,W.heap.size,Ax.kp Dr hown hkW (by simp only [List.mem_singleton,forall_eq];exact fun h=>h.elim ns_l_B fun h=>h.elim (fun h=>Nat.not_lt_of_le h.1 (Ad Re51_B.1)) fun h=>Nat.not_lt_of_le h.1 (Nat.lt_of_lt_of_le hsB hua.size)),
         fun x h=>h.elim (fun h=>Nat.lt_of_lt_of_le (up_l x h) (Nat.le_trans us_le51 (Nat.le_trans hk.size (Nat.le_trans hua.size (Nat.le_trans hka.size hkW.size))))) fun h=>h.elim (fun h=>Nat.lt_of_lt_of_le h.2 (Nat.le_trans hua.size (Nat.le_trans hka.size hkW.size))) fun h=>Nat.lt_of_lt_of_le h.2 hkW.size,Nat.le_refl _,
         fun x h=>h.elim (dn_l x) fun h=>h.elim (fun h=>Nat.le_trans (HKe51.1.size) h.1) fun h=>Nat.le_trans (Nat.le_trans (HKe51.1.size) (Nat.le_trans hk.size hua.size)) h.1,
         fun h=>h.elim ns_l_p fun h=>h.elim (fun h=>Nat.not_lt_of_le h.1 (Ad HPe51.1.row)) fun h=>Nat.not_lt_of_le h.1 (Nat.lt_of_lt_of_le (Ad hp.row) hua.size),
         fun h=>h.elim ns_l_R fun h=>h.elim (fun h=>Nat.not_lt_of_le h.1 (Ad Re51_R.1)) fun h=>Nat.not_lt_of_le h.1 (Nat.lt_of_lt_of_le (Ad r_R) hua.size),
         fun h=>h.elim ns_l_B fun h=>h.elim (fun h=>Nat.not_lt_of_le h.1 (Ad Re51_B.1)) fun h=>Nat.not_lt_of_le h.1 (Nat.lt_of_lt_of_le hsB hua.size),
         ((hp.keep hua).keepN hka (fun h=>ns_l_p (hfl _ h)) (fun x h=>Nat.lt_of_lt_of_le g_0 (dn_l x (hfl x h)))).keepN hkW (by simp [n_p_B]) (by simp [g_B]),
         (((HKe51.1.trans hk qg).trans hua qg).trans hka (fun x h=> .inr (dn_l x (hfl x h)))).trans hkW (by simp [o_B]),
         hkW.at (hka.at (Ed r_R) (fun h=>ns_l_R (hfl _ h))) (by simp [n_R_B]),cB⟩
      obtain ⟨v2,T2,U2,hl,up_k,us_k,dn_k,ns_k_p,ns_k_R,ns_k_B,hp,hk,hR,hB⟩:=hcut;have HL2:=zh hl;have HPc:=zh hp;have HKc:=zh hk;have RR2:=zh hR;have RB2:=zh hB;clear hl hp hk hR hB;have l_p:=Ad HPc.1.row;have l_R:=Ad RR2.1;have l_B:=Ad RB2.1
      go_wp2_with fail
      clear l_p l_R l_B;refine (Oe HPc.1 HY.1).mono ?_;rintro r e81 ⟨rfl,hp,hk⟩;have Re81_R:=zh (hk.at RR2.1 qk);have Re81_B:=zh (hk.at RB2.1 qq);have HKe81:=zh (HKc.1.trans hk qg);have ke81:=zh (Ax.kp Dr HL2.1 hk (by simp [ns_k_p]));have us_ke81:=Nat.le_trans us_k hk.size;have HPne81:=zh hp;clear hp;clear hk RR2 RB2 HKc HL2 us_k HPc;have l_p:=Ad HPne81.1.row;have l_R:=Ad Re81_R.1;have l_B:=Ad Re81_B.1
      go_wp2_with fail
      go_roundg f
      case measure=>omega
      exact ⟨l++ [m],st4,HF.1,by rw [List.length_append,List.length_singleton];omega,v2,T2,U2,ke81.1,up_k,us_ke81,dn_k,ns_k_p,ns_k_R,ns_k_B,HPne81.1,HKe81.1,Re81_R.1,Re81_B.1⟩
def Ey(s:ByteArray)(p:Nat):Wh→Bq→Bq→Af→Prop
 | .expr,st,st',n=>Aw s p st st' n 109
 | .cond,st,st',n=>Aw s p st st' n 130
 | .or,st,st',n=>Aw s p st st' n 170
 | .and,st,st',n=>Aw s p st st' n 193
 | .in,st,st',n=>Aw s p st st' n 226
 | .match,st,st',n=>Aw s p st st' n 256
 | .compare,st,st',n=>Aw s p st st' n 266
 | .concat,st,st',n=>Aw s p st st' n 270
 | .sum,st,st',n=>Aw s p st st' n 273
 | .product,st,st',n=>Aw s p st st' n 281
 | .unary,st,st',n=>Aw s p st st' n 286
 | .power,st,st',n=>Aw s p st st' n 288
 | .post,st,st',n=>Aw s p st st' n 290
 | .primary,st,st',n=>Aw s p st st' n 292
 | .operand,st,st',n=>Aw s p st st' n 294
 | .dollar,st,st',n=>Aw s p st st' n 296
 | .simple,st,st',n=>Aw s p st st' n 165
 | .stmt,st,st',n=>Aw s p st st' n 127
 | .block,st,st',n=>Aw s p st st' n 107
theorem Mf{s:ByteArray}{st:Bq}{op:Bool}{t:Ud}{re im:Nat}(h:Zg s st op=some (t,re,im)):Be s st.pos op=some t∧re=(Ag s t.fr).1∧im=(Ag s t.fr).2:=by
 unfold Zg at h
 cases ht:Be s st.pos op with
 |none=>rw [ht] at h;simp at h
 |some t2=>
  rw [ht] at h;simp only [Option.bind_eq_bind,Option.bind_some,Option.some.injEq,Prod.mk.injEq] at h;obtain ⟨rfl,h2⟩:=h;exact ⟨rfl,by rw [h2],by rw [h2]⟩
theorem Ay{a:ByteArray}{l:List UInt8}(h:same a (bs l)=false):(a.toList==l)=false:=by
 rw [←Ct,show (bs l).toList=l from by rw [bs,ByteArray.toList_mk]] at h;exact h
theorem KU{a:ByteArray}{l:List UInt8}(h:same a (bs l)=true):(a.toList==l)=true:=by
 rw [←Ct,show (bs l).toList=l from by rw [bs,ByteArray.toList_mk]] at h;exact h
theorem Ph{s:ByteArray}{st st':Bq}{x:ByteArray}(h:He s st x=some (false,st')):st'=st∧Dv s st x=some ():=by
 unfold He at h;unfold Dv AW
 cases ht:Be s st.pos false with
 |none=>rw [ht] at h;simp at h
 |some t=>
  rw [ht] at h;simp only [Option.bind_eq_bind,Option.bind_some] at h⊢
  cases hb:Ya t x
  ·rw [hb] at h;simp only [Bool.false_eq_true,if_false,Option.some.injEq,Prod.mk.injEq,true_and] at h;exact ⟨h.symm,by simp⟩
  rw [hb] at h;simp only [if_true] at h
  cases ho:TK x st.opn with
  |none=>rw [ho] at h;simp at h
  |some o=>rw [ho] at h;simp at h
section
variable {s:ByteArray} {p:Nat} {rec:Zx} (hrec:∀wh st st' n,rec wh st=some (n,st')→Ey s p wh st st' n)
include hrec
theorem SQ{st st':Bq}{n:Af}(hx:step s rec .expr st=some (n,st')):Ey s p .expr st st' n:=by
 simp only [step,Option.bind_eq_bind,Option.bind_eq_some_iff,Prod.exists] at hx;obtain ⟨n1,st1,h1,hx⟩:=hx;have hs:Aw s p st st1 n1 130:=hrec _ _ _ _ h1
 cases hl:Hn n1 with
 |false=>
  rw [hl] at hx;simp only [Bool.false_eq_true,if_false,Option.some.injEq,Prod.mk.injEq] at hx;obtain ⟨rfl,rfl⟩:=hx;exact VC hs hl
 | true=>
  rw [hl] at hx;simp only [if_true,Option.bind_eq_some_iff,Prod.exists] at hx;obtain ⟨x,st2,h2,hx⟩:=hx
  cases x with
  |none=>
   obtain ⟨rfl,hno⟩:=Sj h2;simp only [Option.some.injEq,Prod.mk.injEq] at hx;obtain ⟨rfl,rfl⟩:=hx;exact LT hs hl hno
  |some y=>
   obtain ⟨x,re,im⟩:=y;obtain ⟨t,ht,h9,ha,rfl,rfl,rfl,rfl⟩:=Si h2;simp only [Option.bind_eq_some_iff,Prod.exists,Option.some.injEq,Prod.mk.injEq] at hx;obtain ⟨m,st3,h3,rfl,rfl⟩:=hx;exact PS hs hl ht h9 ha (hrec _ _ _ _ h3)
theorem SP{st st':Bq}{n:Af}(hx:step s rec .post st=some (n,st')):Ey s p .post st st' n:=by
 simp only [step,Option.bind_eq_bind,Option.bind_eq_some_iff,Prod.exists] at hx;obtain ⟨n1,st1,h1,hx⟩:=hx;have hs:Aw s p st st1 n1 292:=hrec _ _ _ _ h1
 cases hl:Hn n1 with
 |false=>
  rw [hl] at hx;simp only [Bool.false_eq_true,if_false,Option.some.injEq,Prod.mk.injEq] at hx;obtain ⟨rfl,rfl⟩:=hx;exact TH hs hl
 | true=>
  rw [hl] at hx;simp only [if_true,Option.bind_eq_some_iff,Prod.exists] at hx;obtain ⟨x,st2,h2,hx⟩:=hx
  cases x with
  |none=>
   obtain ⟨rfl,hno⟩:=Sj h2;simp only [Option.some.injEq,Prod.mk.injEq] at hx;obtain ⟨rfl,rfl⟩:=hx;exact KY hs hl hno
  |some y=>
   obtain ⟨x,re,im⟩:=y;obtain ⟨t,ht,h9,ha,rfl,rfl,rfl,rfl⟩:=Si h2;simp only [Option.some.injEq,Prod.mk.injEq] at hx;obtain ⟨rfl,rfl⟩:=hx;exact OC hs hl ht h9 ha
theorem SR{st st':Bq}{n:Af}(hx:step s rec .cond st=some (n,st')):Ey s p .cond st st' n:=by
 simp only [step,Option.bind_eq_bind,Option.bind_eq_some_iff,Prod.exists,Option.some.injEq,Prod.mk.injEq] at hx;obtain ⟨n1,st1,h1,_,h2,rfl,rfl⟩:=hx;exact VK (hrec _ _ _ _ h1) h2
theorem ZJ{st st':Bq}{n:Af}(hx:step s rec .or st=some (n,st')):Ey s p .or st st' n:=by
 simp only [step,Option.bind_eq_bind,Option.bind_eq_some_iff,Prod.exists,Option.some.injEq,Prod.mk.injEq] at hx;obtain ⟨n1,st1,h1,_,h2,rfl,rfl⟩:=hx;exact ZU (hrec _ _ _ _ h1) h2
theorem WQ{st st':Bq}{n:Af}(hx:step s rec .and st=some (n,st')):Ey s p .and st st' n:=by
 simp only [step,Option.bind_eq_bind,Option.bind_eq_some_iff,Prod.exists,Option.some.injEq,Prod.mk.injEq] at hx;obtain ⟨n1,st1,h1,_,h2,rfl,rfl⟩:=hx;exact YA (hrec _ _ _ _ h1) h2
theorem ZK{st st':Bq}{n:Af}(hx:step s rec .in st=some (n,st')):Ey s p .in st st' n:=by
 simp only [step,Option.bind_eq_bind,Option.bind_eq_some_iff,Prod.exists,Option.some.injEq,Prod.mk.injEq] at hx;obtain ⟨n1,st1,h1,_,h2,rfl,rfl⟩:=hx;exact Aac (hrec _ _ _ _ h1) h2
theorem NG{st st':Bq}{n:Af}(hx:step s rec .match st=some (n,st')):Ey s p .match st st' n:=by
 simp only [step,Option.bind_eq_bind,Option.bind_eq_some_iff,Prod.exists,Option.some.injEq,Prod.mk.injEq] at hx;obtain ⟨n1,st1,h1,_,h2,rfl,rfl⟩:=hx;exact OR (hrec _ _ _ _ h1) h2
theorem FI{st st':Bq}{n:Af}(hx:step s rec .compare st=some (n,st')):Ey s p .compare st st' n:=by
 simp only [step,Option.bind_eq_bind,Option.bind_eq_some_iff,Prod.exists] at hx;obtain ⟨n1,st1,h1,hx⟩:=hx
 cases hg:st1.ng with
 |true=>rw [hg] at hx;cases hx
 |false=>
  rw [hg] at hx;simp only [Bool.false_eq_true,if_false,Option.bind_eq_some_iff,Option.some.injEq,Prod.mk.injEq] at hx;obtain ⟨_,h2,rfl,rfl⟩:=hx;exact Ta (hrec _ _ _ _ h1) h2 hg
theorem FF{st st':Bq}{n:Af}(hx:step s rec .product st=some (n,st')):Ey s p .product st st' n:=by
 simp only [step,Option.bind_eq_bind,Option.bind_eq_some_iff,Prod.exists,Option.some.injEq,Prod.mk.injEq] at hx;obtain ⟨n1,st1,h1,_,h2,rfl,rfl⟩:=hx;exact FP (hrec _ _ _ _ h1) h2
theorem NE{st st':Bq}{n:Af}(hx:step s rec .unary st=some (n,st')):Ey s p .unary st st' n:=by
 simp only [step,Option.bind_eq_bind,Option.bind_eq_some_iff] at hx;obtain ⟨_,h1,hx⟩:=hx;exact MW h1 (hrec _ _ _ _ hx)
theorem NF{st st':Bq}{n:Af}(hx:step s rec .power st=some (n,st')):Ey s p .power st st' n:=by
 simp only [step,Option.bind_eq_bind,Option.bind_eq_some_iff,Prod.exists,Option.some.injEq,Prod.mk.injEq] at hx;obtain ⟨n1,st1,h1,_,h2,rfl,rfl⟩:=hx;exact OB (hrec _ _ _ _ h1) h2
theorem FG{st st':Bq}{n:Af}(hx:step s rec .primary st=some (n,st')):Ey s p .primary st st' n:=by
 simp only [step,Option.bind_eq_bind,Option.bind_eq_some_iff] at hx;obtain ⟨_,h1,_,h2,hx⟩:=hx;exact FQ h1 h2 (hrec _ _ _ _ hx)
theorem KA{st st':Bq}{n:Af}(hx:step s rec .dollar st=some (n,st')):Ey s p .dollar st st' n:=by
 simp only [step,Option.bind_eq_bind,Option.bind_eq_some_iff] at hx;obtain ⟨_,h1,_,h2,hx⟩:=hx;exact LX h1 h2 (hrec _ _ _ _ hx)
theorem FH{st st':Bq}{n:Af}(hx:step s rec .operand st=some (n,st')):Ey s p .operand st st' n:=by
 intro w h;simp only [step,Option.bind_eq_bind,Option.bind_eq_some_iff] at hx;obtain ⟨t,ht,hx⟩:=hx;have hle:=(Eo ht h.le).2.1;obtain ⟨kd,tx,nm,fr,te⟩:=t;simp only at hx hle
 by_cases h2:kd=2
 ·subst h2;simp only [if_true,Option.some.injEq,Prod.mk.injEq] at hx;obtain ⟨rfl,rfl⟩:=hx;exact CU ht w h
 rw [if_neg h2] at hx
 by_cases h5:kd=5
 ·subst h5;simp only [if_true,Option.bind_eq_some_iff,Prod.exists] at hx;obtain ⟨b,st2,hb,hx⟩:=hx
  cases b with
  |true=>
   simp only [if_true,Option.bind_eq_some_iff,Prod.exists,Option.some.injEq,Prod.mk.injEq] at hx;obtain ⟨l,st3,h4,st4,hw,rfl,rfl⟩:=hx;exact Xx ht hb (GB (OY (fun a b c hh=>hrec _ _ _ _ hh) h4) hw) w h
  |false=>
   simp only [Bool.false_eq_true,if_false,Option.some.injEq,Prod.mk.injEq] at hx;obtain ⟨rfl,rfl⟩:=hx;exact CT ht hb w h
 rw [if_neg h5] at hx
 by_cases h9:kd=9∧same tx (bs [36])=true
 ·rw [if_pos h9] at hx;obtain ⟨rfl,hs⟩:=h9;simp only [Option.bind_eq_some_iff,Prod.exists,Option.some.injEq,Prod.mk.injEq] at hx;obtain ⟨m,st2,hm,rfl,rfl⟩:=hx;exact Vy ht (KU hs) (hrec _ _ _ _ hm) w h
 rw [if_neg h9] at hx;cases hx
theorem JZ{st st':Bq}{n:Af}(hx:step s rec .simple st=some (n,st')):Ey s p .simple st st' n:=by
 simp only [step,Option.bind_eq_bind,Option.bind_eq_some_iff,Prod.exists] at hx;obtain ⟨t,re,im,h0,_,h1,_,h2,b,st2,h3,hx⟩:=hx;obtain ⟨ht,rfl,rfl⟩:=Mf h0;obtain ⟨kd,tx,nm,fr,te⟩:=t
 cases b with
 |true=>
  simp only [if_true,Option.some.injEq,Prod.mk.injEq] at hx;obtain ⟨rfl,rfl⟩:=hx;exact CD ht h1 h2 h3
 | false=>
  simp only [Bool.false_eq_true,if_false,Option.bind_eq_some_iff,Prod.exists] at hx;obtain ⟨_,h4,_,h5,_,h6,b,st3,h7,hx⟩:=hx;have hs2:st2=st∧Dv s st (bs [110,101,120,116])=some ():=Ph h3;obtain ⟨rfl,h3'⟩:=hs2
  cases b with
  |true=>
   simp at hx
  |false=>
   obtain ⟨rfl,h7'⟩:=Ph h7;simp only [Bool.false_eq_true,if_false,Option.bind_eq_some_iff,Prod.exists,Option.some.injEq,Prod.mk.injEq] at hx;obtain ⟨_,h8,m,st4,h9,rfl,rfl⟩:=hx;exact CE ht h1 h2 h3' h4 h5 h6 h7' h8 (hrec _ _ _ _ h9)
theorem SM{st st':Bq}{n:Af}(hx:step s rec .stmt st=some (n,st')):Ey s p .stmt st st' n:=by
 simp only [step,Option.bind_eq_bind,Option.bind_eq_some_iff,Prod.exists,Option.some.injEq,Prod.mk.injEq] at hx;obtain ⟨t,re,im,h0,_,h1,_,h2,_,h3,_,h4,_,h5,m,st2,h6,st3,h7,rfl,rfl⟩:=hx;obtain ⟨ht,rfl,rfl⟩:=Mf h0;obtain ⟨kd,tx,nm,fr,te⟩:=t;exact SI ht h1 h2 h3 h4 h5 (hrec _ _ _ _ h6) h7
theorem NH{st st':Bq}{n:Af}(hx:step s rec .block st=some (n,st')):Ey s p .block st st' n:=by
 simp only [step,Option.bind_eq_bind,Option.bind_eq_some_iff,Prod.exists,Option.some.injEq,Prod.mk.injEq] at hx;obtain ⟨t,re,im,h0,st1,h1,st2,h2,l,st3,h3,st4,h4,rfl,rfl⟩:=hx;obtain ⟨ht,rfl,rfl⟩:=Mf h0;obtain ⟨kd,tx,nm,fr,te⟩:=t;exact QW (fun a b c hh=>hrec _ _ _ _ hh) ht h1 h2 h3 h4
theorem WP{wh:Wh}{st st':Bq}{n:Af}(hx:step s rec wh st=some (n,st')):Ey s p wh st st' n:=by
 cases wh with
 |expr=>exact SQ hrec hx
 |cond=>exact SR hrec hx
 |or=>exact ZJ hrec hx
 |and=>exact WQ hrec hx
 |«in»=>exact ZK hrec hx
 |«match»=>exact NG hrec hx
 |compare=>exact FI hrec hx
 |concat=>exact MC (fun a b c hh=>hrec _ _ _ _ hh) hx
 |sum=>exact WN (fun a b c hh=>hrec _ _ _ _ hh) hx
 |product=>exact FF hrec hx
 |unary=>exact NE hrec hx
 |power=>exact NF hrec hx
 |post=>exact SP hrec hx
 |primary=>exact FG hrec hx
 |operand=>exact FH hrec hx
 |dollar=>exact KA hrec hx
 |simple=>exact JZ hrec hx
 |stmt=>exact SM hrec hx
 |block=>exact NH hrec hx
end
theorem Pn{s:ByteArray}{p:Nat}:∀(k:Nat) (wh:Wh) (st st':Bq) (n:Af),FR s k wh st=some (n,st')→Ey s p wh st st' n
 |0,_,_,_,_,h=>by simp [FR] at h
 |k+1,_,_,_,_,h=>WP (Pn k) h
def Aq{α:Type}(E:World→(Nat→Prop)→α→List Value→Prop)(w:World)(S:Nat→Prop)(l:List α)(v:Value):Prop:=
 ∃a cap,v= .slice a l.length cap∧l.length≤cap∧(0<l.length→∃g o xs,a=some ⟨g,o,none⟩∧S g∧g<w.heap.size∧De (E w S) l xs∧∀j u,xs[j]? =some u→w.cell? ⟨g,o+j,none⟩=some u)
section
variable {α:Type} {E:World→(Nat→Prop)→α→List Value→Prop} {size:Nat}
theorem Aq.kp(hE:Ho E size){w w':World}{S:Nat→Prop}{fp:List Nat}{l:List α}{v:Value}(h:Aq E w S l v)(hk:Ac fp w w')(hf:∀x∈fp,¬S x):Aq E w' S l v:=by
 obtain ⟨a,cap,rfl,hcap,h⟩:=h;refine ⟨a,cap,rfl,hcap,fun h0=> ?_⟩;obtain ⟨g,o,xs,rfl,hS,hg,hx,hc⟩:=h h0
 exact ⟨g,o,xs,rfl,hS,Nat.lt_of_lt_of_le hg hk.size,hx.mono fun a c h=>hE.keep h hk hf fun _ h=>h,fun j u hj=>by
  rw [World.cell?_of_block (w:=w) (a:=⟨g,o+j,none⟩) (hk.block g hg fun hm=>hf g hm hS)];exact hc j u hj⟩
theorem Aq.to(hE:Ho E size){w:World}{S T:Nat→Prop}{l:List α}{v:Value}(h:Aq E w S l v)(hT:∀x,S x→T x):Aq E w T l v:=by
 obtain ⟨a,cap,rfl,hcap,h⟩:=h;refine ⟨a,cap,rfl,hcap,fun h0=> ?_⟩;obtain ⟨g,o,xs,rfl,hS,hg,hx,hc⟩:=h h0;exact ⟨g,o,xs,rfl,hT _ hS,hg,hx.mono fun a c h=>hE.keep h (Ac.refl [] w) qg hT,hc⟩
theorem Aq.nil{w:World}{S:Nat→Prop}{a:Option Addr}{cap:Nat}:Aq E w S [] (.slice a 0 cap):=⟨a,cap,rfl,Nat.zero_le _,fun h=>absurd h qg⟩
theorem Eg(hE:Ho E size){e:TypeId}{w:World}{b:Nat}{T:Nat→Prop}{l:List α}{v:Value}(h:Ax E e size w b T l v):Aq E w T l v:=by
 obtain ⟨xs,ho,ht,hx⟩:=h
 rcases ho.2 with ⟨rfl,hn⟩|⟨g,cap,cur,rfl,hb,hg,h1,h2,h3,h4⟩
 ·exact ⟨none,0,by rw [hn],by omega,fun h=>by omega⟩
 refine ⟨_,cap,rfl,h1,fun h0=>⟨g,0,xs,rfl,ht g rfl,Ad hg,hx.mono fun a c h=>hE.keep h (Ac.refl [] w) qg fun _ h=>h.1,fun j u hj=> ?_⟩⟩;rw [Nat.zero_add,Aa hg];have hj2:(cur.toList.take (l.length*size))[j]? =some u:=by rw [h4];exact hj
 exact WU
theorem De.get{F:α→List Value→Prop}{k:Nat}(hlen:∀a c,F a c→c.length=k){l:List α}{xs:List Value}(h:De F l xs):∀i (hi:i<l.length),∃c,F l[i] c∧∀j u,c[j]? =some u→xs[i*k+j]? =some u:=by
 induction h with
 |nil=>intro i hi;simp at hi
 | cons h1 t ih=>
  rename_i a c l xs;intro i hi
  cases i with
  |zero=>
   refine ⟨c,h1,fun j u hj=> ?_⟩;have hjl:j<c.length:=(List.getElem?_eq_some_iff.1 hj).1;rw [Nat.zero_mul,Nat.zero_add,List.getElem?_append_left hjl];exact hj
  |succ i=>
   obtain ⟨d,h2,h3⟩:=ih i (by simpa using hi);refine ⟨d,by simpa using h2,fun j u hj=> ?_⟩;have h4:=h3 j u hj;have h5:=hlen _ _ h1;rw [List.getElem?_append_right (by rw [h5,Nat.add_mul];omega),h5,show (i+1)*k+j -k=i*k+j from by rw [Nat.add_mul];omega];exact h4
theorem Aq.cap{w:World}{S:Nat→Prop}{l:List α}{a:Option Addr}{n cap:Nat}(h:Aq E w S l (.slice a n cap)):l.length≤cap:=by
 obtain ⟨a',cap',hv,hc,-⟩:=h;injection hv with _ _ h3
 rw [h3];exact hc
theorem Aq.get(hE:Ho E size){w:World}{S:Nat→Prop}{l:List α}{v:Value}(h:Aq E w S l v){i:Nat}(hi:i<l.length):∃g o cap c,v= .slice (some ⟨g,o,none⟩) l.length cap∧S g∧g<w.heap.size∧E w S l[i] c∧∀j u,c[j]? =some u→w.cell? ⟨g,o+(i*size+j),none⟩=some u:=by
 obtain ⟨a,cap,rfl,-,h⟩:=h;obtain ⟨g,o,xs,rfl,hS,hg,hx,hc⟩:=h jh;obtain ⟨c,h1,h2⟩:=hx.get (fun a c h=>hE.len h) i hi;exact ⟨g,o,cap,c,rfl,hS,hg,h1,fun j u hj=>hc _ _ (h2 j u hj)⟩
end
/-! ### strings -/
def Ef(_:World)(_:Nat→Prop)(u:ByteArray)(c:List Value):Prop:=c= [.string u]
theorem Bu:Ho Ef 1:={
 keep:=fun h _ _ _=>h
 len:=fun h=>by rw [h];rfl
 one:=fun h u hu=>by rw [h] at hu;simp at hu;rw [hu];rfl
 }
theorem Aaa:∃i,Tryz.prog.info? 9=some i∧i.zero=some (.string ⟨#[]⟩)∧i.size=1∧i.bytes=16:=by
 exact zje
theorem JP{ops:Array Oper}{rest:List Oper}{o:Oper}{a:Act}{w:World}{Q:Exit→Act→World→Prop}(hgd:o.guard=none)(s y:Operand)(ho:o.op= .call {callee:= .builtin .append,args:= #[s,y],argTypes:= #[22,22]}){b G cap:Nat}{T:Nat→Prop}{l:List ByteArray}{x:ByteArray}{v:Value}(hs:a.eval s=v)(hy:a.eval y= .slice (some ⟨G,0,none⟩) 1 cap)(hO:Ax Ef 9 1 w b T l v)(hG:w.heap[G]? =some (.cells #[.string x] 9 (0,0)))(hT:∀g,T g→g<w.heap.size)(hb:b≤w.heap.size)(hl:l.length≤400000)(h:∀v' w' fl,(∀x∈fl,T x)→Ac fl w w'→Ax Ef 9 1 w' b (fun g=>T g∨(w.heap.size≤g∧g<w'.heap.size)) (l++ [x]) v'→wpList Tryz.prog ops Q rest (a.put o.dst v') w'):wpList Tryz.prog ops Q (o::rest) a w:=by
 obtain ⟨i,hi,hz,hsz,hby⟩:=Aaa
 exact Ig Bu hgd s y 22 ho Tryz.underlying22 hi hz hsz hby rfl zi zi hs hy hO (S:=fun _=>False) (c:= [.string x]) hG rfl (fun _ h=>h.elim) (fun _ h=>h.elim) hT hb hl
  fun v' w' fl h1 h2 h3=>h v' w' fl h1 h2 (h3.to Bu fun g hg=>hg.elim .inl fun hg=>hg.elim (fun h=>h.elim) .inr)
/-! ### functions, rules -/
def Nx(w:World)(S:Nat→Prop)(f:Az)(v:Value):Prop:=
 ∃pa pc b0 b1 b2 b3 b4,v= .agg #[.string f.name,.slice pa f.params.length pc,b0,b1,b2,b3,b4,.complex .f64 f.re f.im]∧Aq Ef w S f.params (.slice pa f.params.length pc)∧Au w S f.body (.agg #[b0,b1,b2,b3,b4])
def Ug(w:World)(S:Nat→Prop)(f:Az)(c:List Value):Prop:=
 ∃pa pc b0 b1 b2 b3 b4,c= [.string f.name,.slice pa f.params.length pc,b0,b1,b2,b3,b4,.complex .f64 f.re f.im]∧Aq Ef w S f.params (.slice pa f.params.length pc)∧Au w S f.body (.agg #[b0,b1,b2,b3,b4])
theorem CV{w:World}{S:Nat→Prop}{n:Af}{b0 b1 b2 b3 b4:Value}(h:Au w S n (.agg #[b0,b1,b2,b3,b4])):∀u∈ [b0,b1,b2,b3,b4],u.oneCell'=true:=Dr.one (S:=S) (a:=n) (w:=w) ⟨rfl,h⟩
theorem Es:Ho Ug 8:={
 keep:=fun ⟨pa,pc,b0,b1,b2,b3,b4,h,hp,hn⟩ hk hf hS=>⟨pa,pc,b0,b1,b2,b3,b4,h,(hp.kp Bu hk hf).to Bu hS,hn.keep hk hf hS⟩
 len:=fun ⟨_,_,_,_,_,_,_,h,_,_⟩=>by rw [h];rfl
 one:=fun ⟨_,_,_,_,_,_,_,h,_,hn⟩ u hu=>by
  rw [h] at hu;simp only [List.mem_cons,List.not_mem_nil,or_false] at hu
  rcases hu with rfl|rfl|h1|h1|h1|h1|h1|rfl
  ·rfl
  ·rfl
  all_goals first|rfl|exact CV hn u (by simp [h1])
 }
def Jc(w:World)(S:Nat→Prop)(r:Cy)(v:Value):Prop:=
 ∃pa pc b0 b1 b2 b3 b4,v= .agg #[.int .i64 r.kind,.int .i64 r.n,.slice pa r.pats.length pc,b0,b1,b2,b3,b4,.complex .f64 r.re r.im]∧Bc w S r.pats (.slice pa r.pats.length pc)∧Au w S r.body (.agg #[b0,b1,b2,b3,b4])
def Rm(w:World)(S:Nat→Prop)(r:Cy)(c:List Value):Prop:=
 ∃pa pc b0 b1 b2 b3 b4,c= [.int .i64 r.kind,.int .i64 r.n,.slice pa r.pats.length pc,b0,b1,b2,b3,b4,.complex .f64 r.re r.im]∧Bc w S r.pats (.slice pa r.pats.length pc)∧Au w S r.body (.agg #[b0,b1,b2,b3,b4])
theorem Dh:Ho Rm 9:={
 keep:=fun ⟨pa,pc,b0,b1,b2,b3,b4,h,hp,hn⟩ hk hf hS=>⟨pa,pc,b0,b1,b2,b3,b4,h,hp.keep hk hf hS,hn.keep hk hf hS⟩
 len:=fun ⟨_,_,_,_,_,_,_,h,_,_⟩=>by rw [h];rfl
 one:=fun ⟨_,_,_,_,_,_,_,h,_,hn⟩ u hu=>by
  rw [h] at hu;simp only [List.mem_cons,List.not_mem_nil,or_false] at hu
  rcases hu with rfl|rfl|rfl|h1|h1|h1|h1|h1|rfl
  ·rfl
  ·rfl
  ·rfl
  all_goals first|rfl|exact CV hn u (by simp [h1])
 }
theorem Nx.kp{w w':World}{S:Nat→Prop}{fp:List Nat}{f:Az}{v:Value}(h:Nx w S f v)(hk:Ac fp w w')(hf:∀x∈fp,¬S x):Nx w' S f v:=by
 obtain ⟨pa,pc,b0,b1,b2,b3,b4,h,hp,hn⟩:=h;exact ⟨pa,pc,b0,b1,b2,b3,b4,h,hp.kp Bu hk hf,hn.kp hk hf⟩
theorem Nx.to{w:World}{S T:Nat→Prop}{f:Az}{v:Value}(h:Nx w S f v)(hT:∀x,S x→T x):Nx w T f v:=by
 obtain ⟨pa,pc,b0,b1,b2,b3,b4,h,hp,hn⟩:=h;exact ⟨pa,pc,b0,b1,b2,b3,b4,h,hp.to Bu hT,hn.to hT⟩
theorem Jc.kp{w w':World}{S:Nat→Prop}{fp:List Nat}{f:Cy}{v:Value}(h:Jc w S f v)(hk:Ac fp w w')(hf:∀x∈fp,¬S x):Jc w' S f v:=by
 obtain ⟨pa,pc,b0,b1,b2,b3,b4,h,hp,hn⟩:=h;exact ⟨pa,pc,b0,b1,b2,b3,b4,h,hp.kp hk hf,hn.kp hk hf⟩
theorem Jc.to{w:World}{S T:Nat→Prop}{f:Cy}{v:Value}(h:Jc w S f v)(hT:∀x,S x→T x):Jc w T f v:=by
 obtain ⟨pa,pc,b0,b1,b2,b3,b4,h,hp,hn⟩:=h;exact ⟨pa,pc,b0,b1,b2,b3,b4,h,hp.to hT,hn.to hT⟩
theorem Bc.shape{w:World}{S:Nat→Prop}{ns:List Af}{v:Value}(h:Bc w S ns v):∃a cap,v= .slice a ns.length cap:=by
 cases h with
 |nil=>exact ⟨_,_,rfl⟩
 |some hS hg h=>exact ⟨_,_,rfl⟩
theorem Aq.seg{α:Type}{E:World→(Nat→Prop)→α→List Value→Prop}{size:Nat}(_:Ho E size)(hs:∀{w:World} {S:Nat→Prop} {a:α} {c:List Value},E w S a c→E w (fun g=>S g∧g<w.heap.size) a c){w:World}{S:Nat→Prop}{l:List α}{v:Value}(h:Aq E w S l v):Aq E w (fun g=>S g∧g<w.heap.size) l v:=by
 obtain ⟨a,cap,rfl,hcap,h⟩:=h;refine ⟨a,cap,rfl,hcap,fun h0=> ?_⟩;obtain ⟨g,o,xs,rfl,hS,hg,hx,hc⟩:=h h0;exact ⟨g,o,xs,rfl,⟨hS,hg⟩,hg,hx.mono fun a c h=>hs h,hc⟩
theorem Nx.seg{w:World}{a:Nat}{f:Az}{v:Value}(h:Nx w (fun g=>a≤g) f v):Nx w (Dm a w.heap.size) f v:=by
 obtain ⟨pa,pc,b0,b1,b2,b3,b4,h,hp,hn⟩:=h;exact ⟨pa,pc,b0,b1,b2,b3,b4,h,hp.seg Bu (fun h=>h),hn.seg⟩
theorem Jc.seg{w:World}{a:Nat}{f:Cy}{v:Value}(h:Jc w (fun g=>a≤g) f v):Jc w (Dm a w.heap.size) f v:=by
 obtain ⟨pa,pc,b0,b1,b2,b3,b4,h,hp,hn⟩:=h;exact ⟨pa,pc,b0,b1,b2,b3,b4,h,hp.seg,hn.seg⟩
theorem Gr{P:Program}{ops:Array Oper}{o:Oper}{a:Act}{K:Act→World→Prop}{Q:Exit→Act→World→Prop}{Z:Prop}{W:World}(F:World→Prop)(hF:F W)
 (h:∀W',F W'→if Region.wanted o (yielded ops a.tmps)=true then Oper.wp P o a W' K Q else Z):if Region.wanted o (yielded ops a.tmps)=true then Oper.wp P o a W K Q else Z:=h W hF
end Go.Proofs.YtkfillfkbhbbjaaGreatDoor
