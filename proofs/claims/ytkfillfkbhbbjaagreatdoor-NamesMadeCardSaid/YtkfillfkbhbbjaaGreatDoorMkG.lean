/- PrgB, PrgC, MkG. -/
import Derived.Test.YtkfillfkbhbbjaaGreatDoorPrgA
import Derived.Test.YtkfillfkbhbbjaaGreatDoorMkC
import Derived.Test.YtkfillfkbhbbjaaGreatDoorOwn
set_option maxRecDepth 100000
set_option maxHeartbeats 4000000
set_option linter.unusedSimpArgs false
set_option linter.unusedVariables false
namespace Go.Proofs.YtkfillfkbhbbjaaGreatDoor
open Go.RowKit
theorem qxe{p:Prop}(h:p:=by
 simp at q0 q1 q2 q3 q4 q5 q6 q7 q8;simp [results,Jo,go_sem,q0,q1,q2,q3,q4,q5,q6,q7,q8]):p:=h
theorem FO{s:ByteArray}{p:Nat}{st:Bq}{st2 st3:Bq}{b:Af}{kd:Int}{tx:ByteArray}{nm fr te:Nat}(ht:Be s st.pos true=some ⟨kd,tx,nm,fr,te⟩)(hx:He s st ⟨#[66,69,71,73,78]⟩=some (true,st2))(hb:Aw s p st2 st3 b 107)(w:World)(h:PP s p st w):Calls Tryz.prog 66 #[.pointer (some ⟨p,0,none⟩)] w fun r w'=>∃v,r= .returned (.tuple #[v,.bool true])∧Jc w' (fun g=>w.heap.size≤g) ⟨1,0,[],b,(Ag s fr).1,(Ag s fr).2⟩ v∧PP s p st3 w'∧Ac [p] w w':=by
 have g_p:=h.p;have HP0:=zh h;have HK0:=zh (Ac.refl [p] w);have HT:=zh ht;have HX:=zh hx;have HBL:=zh hb;clear h ht hx hb
 go_enter Tryz.func66,Tryz.ntmps66
 have l_p:=Ad HP0.1.row
 go_wp2_with fail
 refine zub ?_;rintro w1 ⟨Kw1,cw1_R⟩;have ⟨n_p_R,n_R_p⟩:=Ai l_p;have o_R:w.heap.size≤w.heap.size:=Nat.le_refl _;have g_R:14<w.heap.size:=Nat.lt_trans g_p l_p;have HKw1:=zh (HK0.1.trans Kw1 qg);have HPw1:=zh (HP0.1.keep Kw1);have Rw1_R:=zh cw1_R;clear Kw1 cw1_R l_p HK0 HP0;refine YX ?_;rintro r e2 ⟨rfl,hk⟩;have Re2_R:=zh (hk.at Rw1_R.1 qg);have HKe2:=zh (HKw1.1.trans hk qg);have HPe2:=zh (HPw1.1.keep hk);clear hk Rw1_R HKw1 HPw1;have l_p:=Ad HPe2.1.row;have l_p_1:p<e2.heap.size+1:=Nat.lt_add_right 1 l_p;have l_p_2:p<e2.heap.size+2:=Nat.lt_add_right 2 l_p;have l_p_3:p<e2.heap.size+3:=Nat.lt_add_right 3 l_p;have l_R:=Ad Re2_R.1;have l_R_1:w.heap.size<e2.heap.size+1:=Nat.lt_add_right 1 l_R;have l_R_2:w.heap.size<e2.heap.size+2:=Nat.lt_add_right 2 l_R;have l_R_3:w.heap.size<e2.heap.size+3:=Nat.lt_add_right 3 l_R
 go_wp2_with fail
 refine jub ?_;rintro w3 ⟨Kw3,cw3_T,cw3_F,cw3_A,cw3_C⟩;have ⟨n_p_T,n_T_p⟩:=Ai l_p;have ⟨n_R_T,n_T_R⟩:=Ai l_R;have o_T:w.heap.size≤e2.heap.size:=HKe2.1.size;have g_T:14<e2.heap.size:=Nat.lt_trans g_p l_p;have ⟨n_p_F,n_F_p⟩:=Ai (Nat.lt_add_right 1 l_p);have ⟨n_R_F,n_F_R⟩:=Ai (Nat.lt_add_right 1 l_R);have n_T_F:e2.heap.size≠e2.heap.size+1:=by simp
 have n_F_T:e2.heap.size+1≠e2.heap.size:=by simp
 have o_F:w.heap.size≤e2.heap.size+1:=Nat.le_trans (HKe2.1.size) (Nat.le_add_right _ 1);have g_F:14<e2.heap.size+1:=Nat.lt_trans g_p (Nat.lt_add_right 1 l_p);have ⟨n_p_A,n_A_p⟩:=Ai (Nat.lt_add_right 2 l_p);have ⟨n_R_A,n_A_R⟩:=Ai (Nat.lt_add_right 2 l_R);have n_T_A:e2.heap.size≠e2.heap.size+2:=by simp
 have n_A_T:e2.heap.size+2≠e2.heap.size:=by simp
 have n_F_A:e2.heap.size+1≠e2.heap.size+2:=by simp
 have n_A_F:e2.heap.size+2≠e2.heap.size+1:=by simp
 have o_A:w.heap.size≤e2.heap.size+2:=Nat.le_trans (HKe2.1.size) (Nat.le_add_right _ 2);have g_A:14<e2.heap.size+2:=Nat.lt_trans g_p (Nat.lt_add_right 2 l_p);have ⟨n_p_C,n_C_p⟩:=Ai (Nat.lt_add_right 3 l_p);have ⟨n_R_C,n_C_R⟩:=Ai (Nat.lt_add_right 3 l_R);have n_T_C:e2.heap.size≠e2.heap.size+3:=by simp
 have n_C_T:e2.heap.size+3≠e2.heap.size:=by simp
 have n_F_C:e2.heap.size+1≠e2.heap.size+3:=by simp
 have n_C_F:e2.heap.size+3≠e2.heap.size+1:=by simp
 have n_A_C:e2.heap.size+2≠e2.heap.size+3:=by simp
 have n_C_A:e2.heap.size+3≠e2.heap.size+2:=by simp
 have o_C:w.heap.size≤e2.heap.size+3:=Nat.le_trans (HKe2.1.size) (Nat.le_add_right _ 3);have g_C:14<e2.heap.size+3:=Nat.lt_trans g_p (Nat.lt_add_right 3 l_p);have Rw3_R:=zh (Kw3.at Re2_R.1 qg);have HKw3:=zh (HKe2.1.trans Kw3 qg);have HPw3:=zh (HPe2.1.keep Kw3);have Rw3_T:=zh cw3_T;have Rw3_F:=zh cw3_F;have Rw3_A:=zh cw3_A;have Rw3_C:=zh cw3_C;clear Kw3 cw3_T cw3_F cw3_A cw3_C l_p l_p_1 l_p_2 l_p_3 l_R l_R_1 l_R_2 l_R_3 Re2_R HKe2 HPe2;refine wp_loop_rounds 5 ?_;rw [rounds_succ];have l_p:=Ad HPw3.1.row;have l_R:=Ad Rw3_R.1;have l_T:=Ad Rw3_T.1;have l_F:=Ad Rw3_F.1;obtain ⟨l_A,xA⟩:=Lr Rw3_A.1;have l_C:=Ad Rw3_C.1
 go_wp2_with fail
 clear l_p l_R l_T l_F l_A xA l_C;refine (Bt HPw3.1 HX.1).mono ?_;rintro r e4 ⟨rfl,hp,hk⟩;have Re4_R:=zh (hk.at Rw3_R.1 qk);have Re4_T:=zh (hk.at Rw3_T.1 ql);have Re4_F:=zh (hk.at Rw3_F.1 qy);have Re4_A:=zh (hk.at Rw3_A.1 zz);have Re4_C:=zh (hk.at Rw3_C.1 jz);have HKe4:=zh (HKw3.1.trans hk qg);have HPne4:=zh hp;clear hp;clear hk Rw3_R Rw3_T Rw3_F Rw3_A Rw3_C HKw3 HPw3;have l_p:=Ad HPne4.1.row;have l_R:=Ad Re4_R.1;have l_T:=Ad Re4_T.1;obtain ⟨l_F,xF⟩:=BI Re4_F.1;have l_A:=Ad Re4_A.1;obtain ⟨l_C,xC⟩:=Lr Re4_C.1
 go_wp2_with fail
 refine An (fun W=>Ac [e2.heap.size+1] e4 W∧W.heap[e2.heap.size+1]? =some (.cells #[.int .i64 1,.int .i64 0,.slice none 0 0,.int .i64 0,.string ⟨#[]⟩,.float .f64 0,.slice none 0 0,.complex .f64 0 0,.complex .f64 (Ag s fr).1 (Ag s fr).2] 52 (0,0))) ⟨jg,(zc Re4_F.1 l_F)⟩ ?_;rintro w5 ⟨Kw5,cw5_F⟩;have Rw5_R:=zh (Kw5.at Re4_R.1 (by simp [n_R_F]));have Rw5_T:=zh (Kw5.at Re4_T.1 (by simp [n_T_F]));have Rw5_A:=zh (Kw5.at Re4_A.1 (by simp [n_A_F]));have Rw5_C:=zh (Kw5.at Re4_C.1 (by simp [n_C_F]));have HKw5:=zh (HKe4.1.trans Kw5 (by simp [o_F]));have HPw5:=zh (HPne4.1.keepN Kw5 (by simp [n_p_F]) (by simp [g_F]));have Rw5_F:=zh cw5_F;clear Kw5 cw5_F l_p l_R l_T l_F xF l_A l_C xC Re4_R Re4_T Re4_A Re4_C HKe4 HPne4 Re4_F;refine (HBL.1 _ HPw5.1).mono ?_;rintro r e6 ⟨v,rfl,hn,hp,hk⟩;have Re6_R:=zh (hk.at Rw5_R.1 qk);have Re6_T:=zh (hk.at Rw5_T.1 ql);have Re6_F:=zh (hk.at Rw5_F.1 qy);have Re6_A:=zh (hk.at Rw5_A.1 zz);have Re6_C:=zh (hk.at Rw5_C.1 jz);have HKe6:=zh (HKw5.1.trans hk qg);have HPne6:=zh hp;have be6:=zh hn.seg;have o_b:w.heap.size≤w5.heap.size:=HKw5.1.size;have ns_b_p:¬(Dm w5.heap.size e6.heap.size) (p):=fun h=>Nat.not_lt_of_le h.1 (Ad HPw5.1.row)
 have ns_b_R:¬(Dm w5.heap.size e6.heap.size) (w.heap.size):=fun h=>Nat.not_lt_of_le h.1 (Ad Rw5_R.1)
 have ns_b_T:¬(Dm w5.heap.size e6.heap.size) (e2.heap.size):=fun h=>Nat.not_lt_of_le h.1 (Ad Rw5_T.1)
 have ns_b_F:¬(Dm w5.heap.size e6.heap.size) (e2.heap.size+1):=fun h=>Nat.not_lt_of_le h.1 (Ad Rw5_F.1)
 have ns_b_A:¬(Dm w5.heap.size e6.heap.size) (e2.heap.size+2):=fun h=>Nat.not_lt_of_le h.1 (Ad Rw5_A.1)
 have ns_b_C:¬(Dm w5.heap.size e6.heap.size) (e2.heap.size+3):=fun h=>Nat.not_lt_of_le h.1 (Ad Rw5_C.1)
 have up_b:∀g,(Dm w5.heap.size e6.heap.size) g→g<e6.heap.size:=fun _ h=>h.2
 have dn_b:∀g,(Dm w5.heap.size e6.heap.size) g→w.heap.size≤g:=fun _ h=>Nat.le_trans o_b h.1
 obtain ⟨bt,bm,ba,bl,bc,br,bi,rfl,-,-⟩:=hn.shape;clear hn hp;clear hk Rw5_R Rw5_T Rw5_F Rw5_A Rw5_C HKw5 HPw5;have l_p:=Ad HPne6.1.row;obtain ⟨l_R,xR⟩:=BI Re6_R.1;have l_T:=Ad Re6_T.1;obtain ⟨l_F,xF⟩:=BI Re6_F.1;have l_A:=Ad Re6_A.1;have l_C:=Ad Re6_C.1
 go_wp2_with fail
 refine Ap (v:= .tuple #[.agg #[.int .i64 1,.int .i64 0,.slice none 0 0,.int .i64 b.kind,.string bt,.float .f64 bm,.slice ba bl bc,.complex .f64 br bi,.complex .f64 (Ag s fr).1 (Ag s fr).2],.bool true]) (fun W=>Ac [e2.heap.size+1,w.heap.size] e6 W∧W.heap[e2.heap.size+1]? =some (.cells #[.int .i64 1,.int .i64 0,.slice none 0 0,.int .i64 b.kind,.string bt,.float .f64 bm,.slice ba bl bc,.complex .f64 br bi,.complex .f64 (Ag s fr).1 (Ag s fr).2] 52 (0,0))∧W.heap[w.heap.size]? =some (.cells #[.int .i64 1,.int .i64 0,.slice none 0 0,.int .i64 b.kind,.string bt,.float .f64 bm,.slice ba bl bc,.complex .f64 br bi,.complex .f64 (Ag s fr).1 (Ag s fr).2] 52 (0,0))) ⟨jg,(jc Re6_F.1 Re6_R.1 n_F_R n_R_F l_F l_R),(jc Re6_F.1 Re6_R.1 n_F_R n_R_F l_F l_R)⟩ (fun w7 hW=> ?_) rfl (fun w7 hW=> ?_)
 ·obtain ⟨Kw7,cw7_F,cw7_R⟩:=hW;have q0:=Aa cw7_R 0;have q1:=Aa cw7_R 1;have q2:=Aa cw7_R 2;have q3:=Aa cw7_R 3;have q4:=Aa cw7_R 4;have q5:=Aa cw7_R 5;have q6:=Aa cw7_R 6;have q7:=Aa cw7_R 7;have q8:=Aa cw7_R 8;exact qxe
 obtain ⟨Kw7,cw7_F,cw7_R⟩:=hW;have Rw7_T:=zh (Kw7.at Re6_T.1 (by simp [n_T_F,n_T_R]));have Rw7_A:=zh (Kw7.at Re6_A.1 (by simp [n_A_F,n_A_R]));have Rw7_C:=zh (Kw7.at Re6_C.1 (by simp [n_C_F,n_C_R]));have HKw7:=zh (HKe6.1.trans Kw7 (by simp [o_F,o_R]));have HPw7:=zh (HPne6.1.keepN Kw7 (by simp [n_p_F,n_p_R]) (by simp [g_F,g_R]));have bw7:=zh (be6.1.kp Kw7 (by simp [ns_b_F,ns_b_R]));have us_bw7:=Nat.le_trans (Nat.le_refl e6.heap.size) Kw7.size;have Rw7_F:=zh cw7_F;have Rw7_R:=zh cw7_R;clear Kw7 cw7_F cw7_R l_p l_R xR l_T l_F xF l_A l_C Re6_T Re6_A Re6_C HKe6 HPne6 be6 Re6_F Re6_R;exact ⟨_,rfl,⟨_,_,_,_,_,_,_,rfl,.nil,bw7.1.to dn_b⟩,HPw7.1,HKw7.1⟩
theorem CG{s:ByteArray}{p:Nat}{st:Bq}{st3:Bq}{b:Af}{kd:Int}{tx:ByteArray}{nm fr te:Nat}(ht:Be s st.pos true=some ⟨kd,tx,nm,fr,te⟩)(hn_BEGIN:Dv s st ⟨#[66,69,71,73,78]⟩=some ())(hn_END:Dv s st ⟨#[69,78,68]⟩=some ())(hn_GAP:Dv s st ⟨#[71,65,80]⟩=some ())(hn_EVERY:Dv s st ⟨#[69,86,69,82,89]⟩=some ())(hc:AW s st ⟨#[123]⟩=some true)(hb:Aw s p st st3 b 107)(w:World)(h:PP s p st w):Calls Tryz.prog 66 #[.pointer (some ⟨p,0,none⟩)] w fun r w'=>∃v,r= .returned (.tuple #[v,.bool true])∧Jc w' (fun g=>w.heap.size≤g) ⟨5,0,[],b,(Ag s fr).1,(Ag s fr).2⟩ v∧PP s p st3 w'∧Ac [p] w w':=by
 have g_p:=h.p;have HP0:=zh h;have HK0:=zh (Ac.refl [p] w);have HT:=zh ht;have HN_BEGIN:=zh (Co hn_BEGIN);have HN_END:=zh (Co hn_END);have HN_GAP:=zh (Co hn_GAP);have HN_EVERY:=zh (Co hn_EVERY);have HB:=zh hc;have HBL:=zh hb;clear h ht hn_BEGIN hn_END hn_GAP hn_EVERY hc hb
 go_enter Tryz.func66,Tryz.ntmps66
 have l_p:=Ad HP0.1.row
 go_wp2_with fail
 refine zub ?_;rintro w1 ⟨Kw1,cw1_R⟩;have ⟨n_p_R,n_R_p⟩:=Ai l_p;have o_R:w.heap.size≤w.heap.size:=Nat.le_refl _;have g_R:14<w.heap.size:=Nat.lt_trans g_p l_p;have HKw1:=zh (HK0.1.trans Kw1 qg);have HPw1:=zh (HP0.1.keep Kw1);have Rw1_R:=zh cw1_R;clear Kw1 cw1_R l_p HK0 HP0;refine YX ?_;rintro r e2 ⟨rfl,hk⟩;have Re2_R:=zh (hk.at Rw1_R.1 qg);have HKe2:=zh (HKw1.1.trans hk qg);have HPe2:=zh (HPw1.1.keep hk);clear hk Rw1_R HKw1 HPw1;have l_p:=Ad HPe2.1.row;have l_p_1:p<e2.heap.size+1:=Nat.lt_add_right 1 l_p;have l_p_2:p<e2.heap.size+2:=Nat.lt_add_right 2 l_p;have l_p_3:p<e2.heap.size+3:=Nat.lt_add_right 3 l_p;have l_R:=Ad Re2_R.1;have l_R_1:w.heap.size<e2.heap.size+1:=Nat.lt_add_right 1 l_R;have l_R_2:w.heap.size<e2.heap.size+2:=Nat.lt_add_right 2 l_R;have l_R_3:w.heap.size<e2.heap.size+3:=Nat.lt_add_right 3 l_R
 go_wp2_with fail
 refine jub ?_;rintro w3 ⟨Kw3,cw3_T,cw3_F,cw3_A,cw3_C⟩;have ⟨n_p_T,n_T_p⟩:=Ai l_p;have ⟨n_R_T,n_T_R⟩:=Ai l_R;have o_T:w.heap.size≤e2.heap.size:=HKe2.1.size;have g_T:14<e2.heap.size:=Nat.lt_trans g_p l_p;have ⟨n_p_F,n_F_p⟩:=Ai (Nat.lt_add_right 1 l_p);have ⟨n_R_F,n_F_R⟩:=Ai (Nat.lt_add_right 1 l_R);have n_T_F:e2.heap.size≠e2.heap.size+1:=by simp
 have n_F_T:e2.heap.size+1≠e2.heap.size:=by simp
 have o_F:w.heap.size≤e2.heap.size+1:=Nat.le_trans (HKe2.1.size) (Nat.le_add_right _ 1);have g_F:14<e2.heap.size+1:=Nat.lt_trans g_p (Nat.lt_add_right 1 l_p);have ⟨n_p_A,n_A_p⟩:=Ai (Nat.lt_add_right 2 l_p);have ⟨n_R_A,n_A_R⟩:=Ai (Nat.lt_add_right 2 l_R);have n_T_A:e2.heap.size≠e2.heap.size+2:=by simp
 have n_A_T:e2.heap.size+2≠e2.heap.size:=by simp
 have n_F_A:e2.heap.size+1≠e2.heap.size+2:=by simp
 have n_A_F:e2.heap.size+2≠e2.heap.size+1:=by simp
 have o_A:w.heap.size≤e2.heap.size+2:=Nat.le_trans (HKe2.1.size) (Nat.le_add_right _ 2);have g_A:14<e2.heap.size+2:=Nat.lt_trans g_p (Nat.lt_add_right 2 l_p);have ⟨n_p_C,n_C_p⟩:=Ai (Nat.lt_add_right 3 l_p);have ⟨n_R_C,n_C_R⟩:=Ai (Nat.lt_add_right 3 l_R);have n_T_C:e2.heap.size≠e2.heap.size+3:=by simp
 have n_C_T:e2.heap.size+3≠e2.heap.size:=by simp
 have n_F_C:e2.heap.size+1≠e2.heap.size+3:=by simp
 have n_C_F:e2.heap.size+3≠e2.heap.size+1:=by simp
 have n_A_C:e2.heap.size+2≠e2.heap.size+3:=by simp
 have n_C_A:e2.heap.size+3≠e2.heap.size+2:=by simp
 have o_C:w.heap.size≤e2.heap.size+3:=Nat.le_trans (HKe2.1.size) (Nat.le_add_right _ 3);have g_C:14<e2.heap.size+3:=Nat.lt_trans g_p (Nat.lt_add_right 3 l_p);have Rw3_R:=zh (Kw3.at Re2_R.1 qg);have HKw3:=zh (HKe2.1.trans Kw3 qg);have HPw3:=zh (HPe2.1.keep Kw3);have Rw3_T:=zh cw3_T;have Rw3_F:=zh cw3_F;have Rw3_A:=zh cw3_A;have Rw3_C:=zh cw3_C;clear Kw3 cw3_T cw3_F cw3_A cw3_C l_p l_p_1 l_p_2 l_p_3 l_R l_R_1 l_R_2 l_R_3 Re2_R HKe2 HPe2;refine wp_loop_rounds 5 ?_;rw [rounds_succ];have l_p:=Ad HPw3.1.row;have l_R:=Ad Rw3_R.1;have l_T:=Ad Rw3_T.1;have l_F:=Ad Rw3_F.1;obtain ⟨l_A,xA⟩:=Lr Rw3_A.1;have l_C:=Ad Rw3_C.1
 go_wp2_with fail
 clear l_p l_R l_T l_F l_A xA l_C;refine (Bt HPw3.1 HN_BEGIN.1).mono ?_;rintro r e4 ⟨rfl,hp,hk⟩;have Re4_R:=zh (hk.at Rw3_R.1 qk);have Re4_T:=zh (hk.at Rw3_T.1 ql);have Re4_F:=zh (hk.at Rw3_F.1 qy);have Re4_A:=zh (hk.at Rw3_A.1 zz);have Re4_C:=zh (hk.at Rw3_C.1 jz);have HKe4:=zh (HKw3.1.trans hk qg);have HPne4:=zh hp;clear hp;clear hk Rw3_R Rw3_T Rw3_F Rw3_A Rw3_C HKw3 HPw3;have l_p:=Ad HPne4.1.row;have l_R:=Ad Re4_R.1;have l_T:=Ad Re4_T.1;have l_F:=Ad Re4_F.1;have l_A:=Ad Re4_A.1;have l_C:=Ad Re4_C.1
 go_wp2_with fail
 clear l_p l_R l_T l_F l_A l_C;rw [rounds_succ];have l_p:=Ad HPne4.1.row;have l_R:=Ad Re4_R.1;have l_T:=Ad Re4_T.1;have l_F:=Ad Re4_F.1;obtain ⟨l_A,xA⟩:=Lr Re4_A.1;have l_C:=Ad Re4_C.1
 go_wp2_with fail
 clear l_p l_R l_T l_F l_A xA l_C;refine (Bt HPne4.1 HN_END.1).mono ?_;rintro r e5 ⟨rfl,hp,hk⟩;have Re5_R:=zh (hk.at Re4_R.1 qk);have Re5_T:=zh (hk.at Re4_T.1 ql);have Re5_F:=zh (hk.at Re4_F.1 qy);have Re5_A:=zh (hk.at Re4_A.1 zz);have Re5_C:=zh (hk.at Re4_C.1 jz);have HKe5:=zh (HKe4.1.trans hk qg);have HPne5:=zh hp;clear hp;clear hk Re4_R Re4_T Re4_F Re4_A Re4_C HKe4 HPne4;have l_p:=Ad HPne5.1.row;have l_R:=Ad Re5_R.1;have l_T:=Ad Re5_T.1;have l_F:=Ad Re5_F.1;have l_A:=Ad Re5_A.1;have l_C:=Ad Re5_C.1
 go_wp2_with fail
 clear l_p l_R l_T l_F l_A l_C;rw [rounds_succ];have l_p:=Ad HPne5.1.row;have l_R:=Ad Re5_R.1;have l_T:=Ad Re5_T.1;have l_F:=Ad Re5_F.1;obtain ⟨l_A,xA⟩:=Lr Re5_A.1;have l_C:=Ad Re5_C.1
 go_wp2_with fail
 clear l_p l_R l_T l_F l_A xA l_C;refine (Bt HPne5.1 HN_GAP.1).mono ?_;rintro r e6 ⟨rfl,hp,hk⟩;have Re6_R:=zh (hk.at Re5_R.1 qk);have Re6_T:=zh (hk.at Re5_T.1 ql);have Re6_F:=zh (hk.at Re5_F.1 qy);have Re6_A:=zh (hk.at Re5_A.1 zz);have Re6_C:=zh (hk.at Re5_C.1 jz);have HKe6:=zh (HKe5.1.trans hk qg);have HPne6:=zh hp;clear hp;clear hk Re5_R Re5_T Re5_F Re5_A Re5_C HKe5 HPne5;have l_p:=Ad HPne6.1.row;have l_R:=Ad Re6_R.1;have l_T:=Ad Re6_T.1;have l_F:=Ad Re6_F.1;have l_A:=Ad Re6_A.1;have l_C:=Ad Re6_C.1
 go_wp2_with fail
 clear l_p l_R l_T l_F l_A l_C;rw [rounds_succ];have l_p:=Ad HPne6.1.row;have l_R:=Ad Re6_R.1;have l_T:=Ad Re6_T.1;have l_F:=Ad Re6_F.1;have l_A:=Ad Re6_A.1;have l_C:=Ad Re6_C.1
 go_wp2_with fail
 clear l_p l_R l_T l_F l_A l_C;refine (Bt HPne6.1 HN_EVERY.1).mono ?_;rintro r e7 ⟨rfl,hp,hk⟩;have Re7_R:=zh (hk.at Re6_R.1 qk);have Re7_T:=zh (hk.at Re6_T.1 ql);have Re7_F:=zh (hk.at Re6_F.1 qy);have Re7_A:=zh (hk.at Re6_A.1 zz);have Re7_C:=zh (hk.at Re6_C.1 jz);have HKe7:=zh (HKe6.1.trans hk qg);have HPne7:=zh hp;clear hp;clear hk Re6_R Re6_T Re6_F Re6_A Re6_C HKe6 HPne6;have l_p:=Ad HPne7.1.row;have l_R:=Ad Re7_R.1;have l_T:=Ad Re7_T.1;obtain ⟨l_F,xF⟩:=BI Re7_F.1;have l_A:=Ad Re7_A.1;have l_C:=Ad Re7_C.1
 go_wp2_with fail
 refine An (fun W=>Ac [e2.heap.size+1] e7 W∧W.heap[e2.heap.size+1]? =some (.cells #[.int .i64 5,.int .i64 0,.slice none 0 0,.int .i64 0,.string ⟨#[]⟩,.float .f64 0,.slice none 0 0,.complex .f64 0 0,.complex .f64 (Ag s fr).1 (Ag s fr).2] 52 (0,0))) ⟨jg,(zc Re7_F.1 l_F)⟩ ?_;rintro w8 ⟨Kw8,cw8_F⟩;have Rw8_R:=zh (Kw8.at Re7_R.1 (by simp [n_R_F]));have Rw8_T:=zh (Kw8.at Re7_T.1 (by simp [n_T_F]));have Rw8_A:=zh (Kw8.at Re7_A.1 (by simp [n_A_F]));have Rw8_C:=zh (Kw8.at Re7_C.1 (by simp [n_C_F]));have HKw8:=zh (HKe7.1.trans Kw8 (by simp [o_F]));have HPw8:=zh (HPne7.1.keepN Kw8 (by simp [n_p_F]) (by simp [g_F]));have Rw8_F:=zh cw8_F;clear Kw8 cw8_F l_p l_R l_T l_F xF l_A l_C Re7_R Re7_T Re7_A Re7_C HKe7 HPne7 Re7_F;refine (Oh HPw8.1 HB.1).mono ?_;rintro r e9 ⟨rfl,hk⟩;have Re9_R:=zh (hk.at Rw8_R.1 qg);have Re9_T:=zh (hk.at Rw8_T.1 qg);have Re9_F:=zh (hk.at Rw8_F.1 qg);have Re9_A:=zh (hk.at Rw8_A.1 qg);have Re9_C:=zh (hk.at Rw8_C.1 qg);have HKe9:=zh (HKw8.1.trans hk qg);have HPe9:=zh (HPw8.1.keep hk);clear hk Rw8_R Rw8_T Rw8_F Rw8_A Rw8_C HKw8 HPw8;have l_p:=Ad HPe9.1.row;have l_R:=Ad Re9_R.1;have l_T:=Ad Re9_T.1;have l_F:=Ad Re9_F.1;have l_A:=Ad Re9_A.1;have l_C:=Ad Re9_C.1
 go_wp2_with fail
 clear l_p l_R l_T l_F l_A l_C;refine (HBL.1 _ HPe9.1).mono ?_;rintro r e10 ⟨v,rfl,hn,hp,hk⟩;have Re10_R:=zh (hk.at Re9_R.1 qk);have Re10_T:=zh (hk.at Re9_T.1 ql);have Re10_F:=zh (hk.at Re9_F.1 qy);have Re10_A:=zh (hk.at Re9_A.1 zz);have Re10_C:=zh (hk.at Re9_C.1 jz);have HKe10:=zh (HKe9.1.trans hk qg);have HPne10:=zh hp;have be10:=zh hn.seg;have o_b:w.heap.size≤e9.heap.size:=HKe9.1.size;have ns_b_p:¬(Dm e9.heap.size e10.heap.size) (p):=fun h=>Nat.not_lt_of_le h.1 (Ad HPe9.1.row)
 have ns_b_R:¬(Dm e9.heap.size e10.heap.size) (w.heap.size):=fun h=>Nat.not_lt_of_le h.1 (Ad Re9_R.1)
 have ns_b_T:¬(Dm e9.heap.size e10.heap.size) (e2.heap.size):=fun h=>Nat.not_lt_of_le h.1 (Ad Re9_T.1)
 have ns_b_F:¬(Dm e9.heap.size e10.heap.size) (e2.heap.size+1):=fun h=>Nat.not_lt_of_le h.1 (Ad Re9_F.1)
 have ns_b_A:¬(Dm e9.heap.size e10.heap.size) (e2.heap.size+2):=fun h=>Nat.not_lt_of_le h.1 (Ad Re9_A.1)
 have ns_b_C:¬(Dm e9.heap.size e10.heap.size) (e2.heap.size+3):=fun h=>Nat.not_lt_of_le h.1 (Ad Re9_C.1)
 have up_b:∀g,(Dm e9.heap.size e10.heap.size) g→g<e10.heap.size:=fun _ h=>h.2
 have dn_b:∀g,(Dm e9.heap.size e10.heap.size) g→w.heap.size≤g:=fun _ h=>Nat.le_trans o_b h.1
 obtain ⟨bt,bm,ba,bl,bc,br,bi,rfl,-,-⟩:=hn.shape;clear hn hp;clear hk Re9_R Re9_T Re9_F Re9_A Re9_C HKe9 HPe9;have l_p:=Ad HPne10.1.row;obtain ⟨l_R,xR⟩:=BI Re10_R.1;have l_T:=Ad Re10_T.1;obtain ⟨l_F,xF⟩:=BI Re10_F.1;have l_A:=Ad Re10_A.1;have l_C:=Ad Re10_C.1
 go_wp2_with fail
 refine Ap (v:= .tuple #[.agg #[.int .i64 5,.int .i64 0,.slice none 0 0,.int .i64 b.kind,.string bt,.float .f64 bm,.slice ba bl bc,.complex .f64 br bi,.complex .f64 (Ag s fr).1 (Ag s fr).2],.bool true]) (fun W=>Ac [e2.heap.size+1,w.heap.size] e10 W∧W.heap[e2.heap.size+1]? =some (.cells #[.int .i64 5,.int .i64 0,.slice none 0 0,.int .i64 b.kind,.string bt,.float .f64 bm,.slice ba bl bc,.complex .f64 br bi,.complex .f64 (Ag s fr).1 (Ag s fr).2] 52 (0,0))∧W.heap[w.heap.size]? =some (.cells #[.int .i64 5,.int .i64 0,.slice none 0 0,.int .i64 b.kind,.string bt,.float .f64 bm,.slice ba bl bc,.complex .f64 br bi,.complex .f64 (Ag s fr).1 (Ag s fr).2] 52 (0,0))) ⟨jg,(jc Re10_F.1 Re10_R.1 n_F_R n_R_F l_F l_R),(jc Re10_F.1 Re10_R.1 n_F_R n_R_F l_F l_R)⟩ (fun w11 hW=> ?_) rfl (fun w11 hW=> ?_)
 ·obtain ⟨Kw11,cw11_F,cw11_R⟩:=hW;have q0:=Aa cw11_R 0;have q1:=Aa cw11_R 1;have q2:=Aa cw11_R 2;have q3:=Aa cw11_R 3;have q4:=Aa cw11_R 4;have q5:=Aa cw11_R 5;have q6:=Aa cw11_R 6;have q7:=Aa cw11_R 7;have q8:=Aa cw11_R 8;exact qxe
 obtain ⟨Kw11,cw11_F,cw11_R⟩:=hW;have Rw11_T:=zh (Kw11.at Re10_T.1 (by simp [n_T_F,n_T_R]));have Rw11_A:=zh (Kw11.at Re10_A.1 (by simp [n_A_F,n_A_R]));have Rw11_C:=zh (Kw11.at Re10_C.1 (by simp [n_C_F,n_C_R]));have HKw11:=zh (HKe10.1.trans Kw11 (by simp [o_F,o_R]));have HPw11:=zh (HPne10.1.keepN Kw11 (by simp [n_p_F,n_p_R]) (by simp [g_F,g_R]));have bw11:=zh (be10.1.kp Kw11 (by simp [ns_b_F,ns_b_R]));have us_bw11:=Nat.le_trans (Nat.le_refl e10.heap.size) Kw11.size;have Rw11_F:=zh cw11_F;have Rw11_R:=zh cw11_R;clear Kw11 cw11_F cw11_R l_p l_R xR l_T l_F xF l_A l_C Re10_T Re10_A Re10_C HKe10 HPne10 be10 Re10_F Re10_R;exact ⟨_,rfl,⟨_,_,_,_,_,_,_,rfl,.nil,bw11.1.to dn_b⟩,HPw11.1,HKw11.1⟩
theorem Nx.shape{w:World}{S:Nat→Prop}{f:Az}{v:Value}(h:Nx w S f v):∃pa pc bt bm ba bl bc br bi,v= .agg #[.string f.name,.slice pa f.params.length pc,.int .i64 f.body.kind,.string bt,.float .f64 bm,.slice ba bl bc,.complex .f64 br bi,.complex .f64 f.re f.im]:=by
 exact zle
theorem Jc.shape{w:World}{S:Nat→Prop}{f:Cy}{v:Value}(h:Jc w S f v):∃pa pc bt bm ba bl bc br bi,v= .agg #[.int .i64 f.kind,.int .i64 f.n,.slice pa f.pats.length pc,.int .i64 f.body.kind,.string bt,.float .f64 bm,.slice ba bl bc,.complex .f64 br bi,.complex .f64 f.re f.im]:=by
 exact zle
theorem NT{w:World}{S:Nat→Prop}{f:Cy}{c0 c1 c2 c3 c4 c5 c6 c7 c8:Value}(h:Jc w S f (.agg #[c0,c1,c2,c3,c4,c5,c6,c7,c8])):Rm w S f [c0,c1,c2,c3,c4,c5,c6,c7,c8]:=by
 obtain ⟨pa,pc,b0,b1,b2,b3,b4,hv,hp,hn⟩:=h;simp at hv;obtain ⟨rfl,rfl,rfl,rfl,rfl,rfl,rfl,rfl,rfl⟩:=hv;exact ⟨_,_,_,_,_,_,_,rfl,hp,hn⟩
theorem PI:∃i,Tryz.prog.info? 61=some i∧i.zero=some (.agg #[.string ⟨#[]⟩,.slice none 0 0,.int .i64 0,.string ⟨#[]⟩,.float .f64 0,.slice none 0 0,.complex .f64 0 0,.complex .f64 0 0])∧i.size=8∧i.bytes=128:=by
 have h:(Tryz.prog.info? 61).map (fun i=>(i.zero,i.size,i.bytes))=some (some (.agg #[.string ⟨#[]⟩,.slice none 0 0,.int .i64 0,.string ⟨#[]⟩,.float .f64 0,.slice none 0 0,.complex .f64 0 0,.complex .f64 0 0]),8,128):=by kernel_rfl
 cases hi:Tryz.prog.info? 61 with
 |none=>rw [hi] at h;cases h
 |some i=>rw [hi] at h;simp at h;exact ⟨i,rfl,h.1,h.2.1,h.2.2⟩
theorem PJ:∃i,Tryz.prog.info? 52=some i∧i.zero=some (.agg #[.int .i64 0,.int .i64 0,.slice none 0 0,.int .i64 0,.string ⟨#[]⟩,.float .f64 0,.slice none 0 0,.complex .f64 0 0,.complex .f64 0 0])∧i.size=9∧i.bytes=128:=by
 have h:(Tryz.prog.info? 52).map (fun i=>(i.zero,i.size,i.bytes))=some (some (.agg #[.int .i64 0,.int .i64 0,.slice none 0 0,.int .i64 0,.string ⟨#[]⟩,.float .f64 0,.slice none 0 0,.complex .f64 0 0,.complex .f64 0 0]),9,128):=by kernel_rfl
 cases hi:Tryz.prog.info? 52 with
 |none=>rw [hi] at h;cases h
 |some i=>rw [hi] at h;simp at h;exact ⟨i,rfl,h.1,h.2.1,h.2.2⟩
theorem Fk{P:Program}{α:Type}{E:World→(Nat→Prop)→α→List Value→Prop}{e:TypeId}{size:Nat}(hE:Ho E size){ops:Array Oper}{o:Oper}{a:Act}{w:World}{K:Act→World→Prop}{Q:Exit→Act→World→Prop}{Z:Prop}(hgd:o.guard=none)(s y:Operand)(t:TypeId)(ho:o.op= .call {callee:= .builtin .append,args:= #[s,y],argTypes:= #[t,t]}){i:TypeInfo}{z:Value}{bytes:Nat}(hu:P.underlying t=some (.slice e))(hi:P.info? e=some i)(hz:i.zero=some z)(hsize:i.size=size)(hby:i.bytes=bytes)(hzs:z.cells.size=size)(hsz:0<size)(hbb:bytes≤1000){b G cap:Nat}{T S:Nat→Prop}{l:List α}{x:α}{v:Value}{c:List Value}(hs:a.eval s=v)(hy:a.eval y= .slice (some ⟨G,0,none⟩) 1 cap)(hO:Ax E e size w b T l v)(hG:w.heap[G]? =some (.cells c.toArray e (0,0)))(hm:E w S x c)(hd:∀g,S g→¬T g)(hS:∀g,S g→g<w.heap.size)(hT:∀g,T g→g<w.heap.size)(hb:b≤w.heap.size)(hl:l.length≤400000)(h:∀v' w' fl,(∀x∈fl,T x)→Ac fl w w'→Ax E e size w' b (fun g=>T g∨S g∨(w.heap.size≤g∧g<w'.heap.size)) (l++ [x]) v'→K (a.put o.dst v') w'):if Region.wanted o (yielded ops a.tmps)=true then Oper.wp P o a w K Q else Z:=by
 obtain ⟨xs,hown,ht,hx⟩:=hO;have hlen:=hE.len hm;refine step_append_lies w hgd s y t ho b e i z size bytes hu hi hz hsize hby hzs hsz v l.length xs hs hown ⟨G,0,none⟩ 1 cap c hy (by simp [hlen]) (fun j u hj=> ?_) (hE.one hm) jh zw ?_ hb _ rfl fun g cp w1 h1 h2 h3 h4=> ?_
 ·have:=Aa hG j;exact YJ
 ·exact jsb
 obtain ⟨q1,fl,q2,q3⟩:=Sg hE hown ht hx hm hd hS hT h1 h2 h3 h4;exact h _ _ fl q2 q3 q1
def ET(s:ByteArray)(p gb:Nat)(w:World)(rs:List Cy)(fs:List Az)(st:Bq)(W:World):Prop:=
 ∃(v1 v2:Value) (T1 T2:Nat→Prop) (U:Nat),Ax Rm 52 9 W w.heap.size T1 rs v1∧Ax Ug 61 8 W w.heap.size T2 fs v2∧(∀x,T1 x→x<U)∧(∀x,T2 x→x<U)∧U≤W.heap.size∧(∀x,T1 x→w.heap.size≤x)∧(∀x,T2 x→w.heap.size≤x)∧
  (∀x,T1 x→¬T2 x)∧¬T1 p∧¬T2 p∧¬T1 gb∧¬T2 gb∧p≠gb∧w.heap.size≤p∧w.heap.size≤gb∧PP s p st W∧Ac [] w W∧W.heap[gb]? =some (.cells #[v1,v2] 33 (0,0))
theorem XK{s:ByteArray}{p gb:Nat}{w wi:World}{st st2:Bq}{rs:List Cy}{fs:List Az}{f:Cy}(hb:AW s st ⟨#[102,117,110,99,116,105,111,110]⟩=some false)(hc:∀w,PP s p st w→Calls Tryz.prog 66 #[.pointer (some ⟨p,0,none⟩)] w fun r w'=>∃v,r= .returned (.tuple #[v,.bool true])∧Jc w' (fun g=>w.heap.size≤g) f v∧PP s p st2 w'∧Ac [p] w w')(hlen:rs.length≤1000)(g_0:14<w.heap.size)(hi:ET s p gb w rs fs st wi):Calls Tryz.prog 37 #[.pointer (some ⟨p,0,none⟩),.pointer (some ⟨gb,0,none⟩)] wi fun r w'=>r= .returned (.tuple #[])∧ET s p gb w (rs++ [f]) fs st2 w':=by
 obtain ⟨v1,v2,T1,T2,U,h1,h2,up_x,up_y,us_x,dn_x,dn_y,dj_x_y,ns_x_p,ns_y_p,ns_x_g,ns_y_g,n_p_g,o_p,o_g,hp,hk,hg⟩:=hi;have us_y:=us_x;have dj_y_x:∀x,T2 x→¬T1 x:=fun x h h'=>dj_x_y x h' h
 have n_g_p:=Ne.symm n_p_g;obtain ⟨a1,c1,rfl,-⟩:=h1.slice;obtain ⟨a2,c2,rfl,-⟩:=h2.slice;have g_p:=hp.p;have g_g:14<gb:=Nat.lt_of_lt_of_le g_0 o_g;have HX1:=zh h1;have HY1:=zh h2;have HPi:=zh hp;have HKi:=zh hk;have Rg:=zh hg;have HB:=zh hb;have HC:=zh hc;clear h1 h2 hp hk hg hb hc
 go_enter Tryz.func37,Tryz.ntmps37
 have l_p:=Ad HPi.1.row;have l_g:=Ad Rg.1
 go_wp2_with fail
 clear l_p l_g;refine (Oh HPi.1 HB.1).mono ?_;rintro r e1 ⟨rfl,hk⟩;have Re1_g:=zh (hk.at Rg.1 qg);have HKe1:=zh (HKi.1.trans hk qg);have HPe1:=zh (HPi.1.keep hk);have xe1:=zh (Ax.kp Dh HX1.1 hk qg);have us_xe1:=Nat.le_trans us_x hk.size;have ye1:=zh (Ax.kp Es HY1.1 hk qg);have us_ye1:=Nat.le_trans us_y hk.size;clear hk Rg HKi HPi HX1 us_x HY1 us_y;have l_p:=Ad HPe1.1.row;have l_g:=Ad Re1_g.1
 go_wp2_with fail
 clear l_p l_g;refine (HC.1 _ HPe1.1).mono ?_;rintro r e2 ⟨v,rfl,hn,hp,hk⟩;have Re2_g:=zh (hk.at Re1_g.1 (by simp [n_g_p]));have HKe2:=zh (HKe1.1.trans hk (by simp [o_p]));have xe2:=zh (Ax.kp Dh xe1.1 hk (by simp [ns_x_p]));have us_xe2:=Nat.le_trans us_xe1 hk.size;have ye2:=zh (Ax.kp Es ye1.1 hk (by simp [ns_y_p]));have us_ye2:=Nat.le_trans us_ye1 hk.size;have HPne2:=zh hp;have fe2:=zh hn.seg;have o_f:w.heap.size≤e1.heap.size:=HKe1.1.size;have ns_f_p:¬(Dm e1.heap.size e2.heap.size) (p):=fun h=>Nat.not_lt_of_le h.1 (Ad HPe1.1.row)
 have ns_f_g:¬(Dm e1.heap.size e2.heap.size) (gb):=fun h=>Nat.not_lt_of_le h.1 (Ad Re1_g.1)
 have up_f:∀g,(Dm e1.heap.size e2.heap.size) g→g<e2.heap.size:=fun _ h=>h.2
 have dn_f:∀g,(Dm e1.heap.size e2.heap.size) g→w.heap.size≤g:=fun _ h=>Nat.le_trans o_f h.1
 have us_x_f:=us_xe1;have us_y_f:=us_ye1;obtain ⟨pa,pc,bt,bm,ba,bl,bc,br,bi,rfl⟩:=hn.shape;clear hn hp;clear hk Re1_g HKe1 xe1 us_xe1 ye1 us_ye1 HPe1;have l_p:=Ad HPne2.1.row;have l_g:=Ad Re2_g.1;obtain ⟨i1,hi1,hi2,hi3,hi4⟩:=PJ;have HI:=zh (And.intro hi1 (And.intro hi2 (And.intro hi3 hi4)));clear hi1 hi2 hi3 hi4
 go_upto_region 4 with fail
 refine Bj (fun W=>Ac [] e2 W∧W.heap[e2.heap.size]? =some (.cells #[.int .i64 f.kind,.int .i64 f.n,.slice pa f.pats.length pc,.int .i64 f.body.kind,.string bt,.float .f64 bm,.slice ba bl bc,.complex .f64 br bi,.complex .f64 f.re f.im] 52 (0,0))) ⟨jg,jb⟩ ?_;rintro w3 ⟨Kw3,cw3_F⟩;have ⟨n_p_F,n_F_p⟩:=Ai l_p;have ⟨n_g_F,n_F_g⟩:=Ai l_g;have o_F:w.heap.size≤e2.heap.size:=HKe2.1.size;have g_F:14<e2.heap.size:=Nat.lt_trans g_p l_p;have ns_x_F:¬(T1) (e2.heap.size):=fun h=>Nat.not_lt_of_le (us_xe2) (up_x _ h)
 have ns_y_F:¬(T2) (e2.heap.size):=fun h=>Nat.not_lt_of_le (us_ye2) (up_y _ h)
 have ns_f_F:¬(Dm e1.heap.size e2.heap.size) (e2.heap.size):=fun h=>Nat.not_lt_of_le ((Nat.le_refl e2.heap.size)) (up_f _ h)
 have Rw3_g:=zh (Kw3.at Re2_g.1 qg);have HKw3:=zh (HKe2.1.trans Kw3 qg);have HPw3:=zh (HPne2.1.keep Kw3);have xw3:=zh (Ax.kp Dh xe2.1 Kw3 qg);have us_xw3:=Nat.le_trans us_xe2 Kw3.size;have yw3:=zh (Ax.kp Es ye2.1 Kw3 qg);have us_yw3:=Nat.le_trans us_ye2 Kw3.size;have fw3:=zh (fe2.1.kp Kw3 qg);have us_fw3:=Nat.le_trans (Nat.le_refl e2.heap.size) Kw3.size;have Rw3_F:=zh cw3_F;clear Kw3 cw3_F l_p l_g Re2_g HKe2 HPne2 xe2 us_xe2 ye2 us_ye2 fe2;have l_p:=Ad HPw3.1.row;obtain ⟨l_g,xg⟩:=Ki Rw3_g.1;obtain ⟨l_F,xF⟩:=BI Rw3_F.1
 go_region_law (refine Gr (fun W=>Ac [] w3 W∧W.heap[w3.heap.size]? =some (.cells #[.int .i64 f.kind,.int .i64 f.n,.slice pa f.pats.length pc,.int .i64 f.body.kind,.string bt,.float .f64 bm,.slice ba bl bc,.complex .f64 br bi,.complex .f64 f.re f.im] 52 (0,0))) ⟨jg,qd⟩ ?_;rintro wq ⟨hkq,cG⟩;refine Fk Dh rfl (.tmp 31) (.tmp 33) 30 rfl Tryz.underlying30 HI.1.1 HI.1.2.1 HI.1.2.2.1 HI.1.2.2.2 rfl zi zi rfl rfl (Ax.kp Dh xw3.1 hkq qg) (c:= [.int .i64 f.kind,.int .i64 f.n,.slice pa f.pats.length pc,.int .i64 f.body.kind,.string bt,.float .f64 bm,.slice ba bl bc,.complex .f64 br bi,.complex .f64 f.re f.im]) cG (NT (fw3.1.kp hkq qg)) (fun g hs ht=>Nat.not_lt_of_le hs.1 (Nat.lt_of_lt_of_le (up_x g ht) us_x_f)) (fun g hs=>Nat.lt_of_lt_of_le (up_f g hs) (Nat.le_trans us_fw3 hkq.size)) (fun g ht=>Nat.lt_of_lt_of_le (up_x g ht) (Nat.le_trans us_xw3 hkq.size)) (Nat.le_trans (HKw3.1.size) hkq.size) jh ?_;rintro va wa fl hfl hka hown;obtain ⟨ka2,kc2,hva,-⟩:=hown.slice;obtain ⟨kn,hkn⟩:∃k,k=(rs++ [f]).length:=⟨_,rfl⟩;rw [←hkn] at hva;subst hva;have HKN:=zh hkn;clear hkn;have r_g:=hka.at (hkq.at Rw3_g.1 qg) (fun h=>ns_x_g (hfl _ h));have lw_g:=Ad r_g;have zg_0:=Aa r_g 0;have zfg_0:=Ab r_g 0;have zg_1:=Aa r_g 1;have zfg_1:=Ab r_g 1;simp at zg_0 zg_1)
 all_goals
  have cwq_G:=cG;clear cG;have ⟨n_p_G,n_G_p⟩:=Ai l_p;have ⟨n_g_G,n_G_g⟩:=Ai l_g;have ⟨n_F_G,n_G_F⟩:=Ai l_F;have o_G:w.heap.size≤w3.heap.size:=HKw3.1.size;have g_G:14<w3.heap.size:=Nat.lt_trans g_p l_p;have ns_x_G:¬(T1) (w3.heap.size):=fun h=>Nat.not_lt_of_le (us_xw3) (up_x _ h)
  have ns_y_G:¬(T2) (w3.heap.size):=fun h=>Nat.not_lt_of_le (us_yw3) (up_y _ h)
  have ns_f_G:¬(Dm e1.heap.size e2.heap.size) (w3.heap.size):=fun h=>Nat.not_lt_of_le (us_fw3) (up_f _ h)
  have Rwq_g:=zh (hkq.at Rw3_g.1 qg);have Rwq_F:=zh (hkq.at Rw3_F.1 qg);have HKwq:=zh (HKw3.1.trans hkq qg);have HPwq:=zh (HPw3.1.keep hkq);have xwq:=zh (Ax.kp Dh xw3.1 hkq qg);have us_xwq:=Nat.le_trans us_xw3 hkq.size;have ywq:=zh (Ax.kp Es yw3.1 hkq qg);have us_ywq:=Nat.le_trans us_yw3 hkq.size;have fwq:=zh (fw3.1.kp hkq qg);have us_fwq:=Nat.le_trans us_fw3 hkq.size;have Rwq_G:=zh cwq_G;clear hkq cwq_G l_p l_g xg l_F xF Rw3_g Rw3_F HKw3 HPw3 xw3 us_xw3 yw3 us_yw3 fw3 us_fw3;have Rwa_g:=zh (hka.at Rwq_g.1 (fun h=>ns_x_g (hfl _ h)));have Rwa_F:=zh (hka.at Rwq_F.1 (fun h=>ns_x_F (hfl _ h)));have Rwa_G:=zh (hka.at Rwq_G.1 (fun h=>ns_x_G (hfl _ h)));have HKwa:=zh (HKwq.1.trans hka (fun x h=> .inr (dn_x x (hfl x h))));have HPwa:=zh (HPwq.1.keepN hka (fun h=>ns_x_p (hfl _ h)) (fun x h=>Nat.lt_of_lt_of_le g_0 (dn_x x (hfl x h))));have us_xwa:=Nat.le_trans us_xwq hka.size;have ywa:=zh (Ax.kp Es ywq.1 hka (fun x h=>dj_x_y x (hfl x h)));have us_ywa:=Nat.le_trans us_ywq hka.size;have us_fwa:=Nat.le_trans us_fwq hka.size;have us_m0:=us_xwa;have us_f0:=us_fwa
  have hpack:∃T3:Nat→Prop,Ax Rm 52 9 wa w.heap.size T3 (rs++ [f]) (.slice ka2 kn kc2)∧(∀x,T3 x→x<wa.heap.size)∧(∀x,T3 x→w.heap.size≤x)∧(∀x,T2 x→¬T3 x)∧¬T3 (p)∧¬T3 (gb)∧¬T3 (e2.heap.size):=
   ⟨_,hown,fun x h=>h.elim (fun h=>Nat.lt_of_lt_of_le (up_x x h) us_m0) fun h=>h.elim (fun h=>Nat.lt_of_lt_of_le (up_f x h) us_f0) fun h=>h.2,fun x h=>h.elim (dn_x x) fun h=>h.elim (dn_f x) fun h=>Nat.le_trans (HKwq.1.size) h.1,
    fun x ho h=>h.elim (dj_y_x x ho) fun h=>h.elim (fun h=>Nat.not_lt_of_le h.1 (Nat.lt_of_lt_of_le (up_y x ho) us_y_f)) fun h=>Nat.not_lt_of_le h.1 (Nat.lt_of_lt_of_le (up_y x ho) us_ywq),fun h=>h.elim ns_x_p fun h=>h.elim ns_f_p fun h=>Nat.not_lt_of_le h.1 (Ad HPwq.1.row),fun h=>h.elim ns_x_g fun h=>h.elim ns_f_g fun h=>Nat.not_lt_of_le h.1 (Ad Rwq_g.1),fun h=>h.elim ns_x_F fun h=>h.elim ns_f_F fun h=>Nat.not_lt_of_le h.1 (Ad Rwq_F.1)⟩
  obtain ⟨T3,hown2,up_k,dn_k,dj_k,ns_k_p,ns_k_g,ns_k_F⟩:=hpack;have HL2:=zh hown2;clear hown hown2 hka hfl us_xwq ywq us_ywq us_fwq;have l_p:=Ad HPwa.1.row;obtain ⟨l_g,xg⟩:=Ki Rwa_g.1;have l_F:=Ad Rwa_F.1
  go_wp2_with fail
  refine An (fun W=>Ac [gb] wa W∧W.heap[gb]? =some (.cells #[.slice ka2 kn kc2,.slice a2 fs.length c2] 33 (0,0))) ⟨jg,(zc Rwa_g.1 l_g)⟩ ?_;rintro w4 ⟨Kw4,cw4_g⟩;have Rw4_F:=zh (Kw4.at Rwa_F.1 (by simp [n_F_g]));have HKw4:=zh (HKwa.1.trans Kw4 (by simp [o_g]));have HPw4:=zh (HPwa.1.keepN Kw4 (by simp [n_p_g]) (by simp [g_g]));have us_xw4:=Nat.le_trans us_xwa Kw4.size;have yw4:=zh (Ax.kp Es ywa.1 Kw4 (by simp [ns_y_g]));have us_yw4:=Nat.le_trans us_ywa Kw4.size;have us_fw4:=Nat.le_trans us_fwa Kw4.size;have kw4:=zh (Ax.kp Dh HL2.1 Kw4 (by simp [ns_k_g]));have us_kw4:=Nat.le_trans (Nat.le_refl wa.heap.size) Kw4.size;have Rw4_g:=zh cw4_g;clear Kw4 cw4_g l_p l_g xg l_F Rwa_F HKwa HPwa us_xwa ywa us_ywa us_fwa HL2 Rwa_g;refine (Eh HPw4.1).mono ?_;rintro r w' ⟨rfl,hw'⟩;rw [hw'];clear hw';have l_p:=Ad HPw4.1.row;have l_g:=Ad Rw4_g.1;have l_F:=Ad Rw4_F.1
  go_wp2_with fail
  refine Ap (v:= .tuple #[]) (fun W=>Ac [] w4 W) jg (fun w5 hW=> ?_) rfl (fun w5 hW=> ?_)
  ·have Kw5:Ac [] w4 w5:=hW;exact Le
  have Kw5:Ac [] w4 w5:=hW;have Rw5_g:=zh (Kw5.at Rw4_g.1 qg);have Rw5_F:=zh (Kw5.at Rw4_F.1 qg);have HKw5:=zh (HKw4.1.trans Kw5 qg);have HPw5:=zh (HPw4.1.keep Kw5);have us_xw5:=Nat.le_trans us_xw4 Kw5.size;have yw5:=zh (Ax.kp Es yw4.1 Kw5 qg);have us_yw5:=Nat.le_trans us_yw4 Kw5.size;have us_fw5:=Nat.le_trans us_fw4 Kw5.size;have kw5:=zh (Ax.kp Dh kw4.1 Kw5 qg);have us_kw5:=Nat.le_trans us_kw4 Kw5.size;clear Kw5 l_p l_g l_F Rw4_g Rw4_F HKw4 HPw4 us_xw4 yw4 us_yw4 us_fw4 kw4 us_kw4;have hkn:=HKN.1;subst hkn;exact ⟨rfl,_,_,T3,T2,w5.heap.size,kw5.1,yw5.1,(fun x h=>Nat.lt_of_lt_of_le (up_k x h) us_kw5),(fun x h=>Nat.lt_of_lt_of_le (up_y x h) us_yw5),Nat.le_refl _,dn_k,dn_y,(fun x h h2=>dj_k x h2 h),ns_k_p,ns_y_p,ns_k_g,ns_y_g,n_p_g,o_p,o_g,HPw5.1,HKw5.1,Rw5_g.1⟩
mutual
theorem Au.bound{w:World}{S:Nat→Prop}{n:Af}{v:Value}(h:Au w S n v):Au w (fun g=>S g∧g<w.heap.size) n v:=by
 cases h with
 |mk h=>exact .mk (Bc.bound h)
theorem Bc.bound{w:World}{S:Nat→Prop}{ns:List Af}{v:Value}(h:Bc w S ns v):Bc w (fun g=>S g∧g<w.heap.size) ns v:=by
 cases h with
 |nil=>exact .nil
 |some hS hg h=>exact .some ⟨hS,hg⟩ hg (Hx.bound h)
theorem Hx.bound{w:World}{S:Nat→Prop}{g o:Nat}{ns:List Af}(h:Hx w S g o ns):Hx w (fun g=>S g∧g<w.heap.size) g o ns:=by
 cases h with
 |nil=>exact .nil
 |cons hn h0 h1 h2 h3 h4 hr=>exact .cons (Au.bound hn) h0 h1 h2 h3 h4 (Hx.bound hr)
end
theorem Na:∀{l:List Af} {n:Af},Pb l→Ur n→Pb (l++ [n])
 | [],_,_,h=>⟨h,trivial⟩
 |_::l,_,h,k=>⟨h.1,Na h.2 k⟩
theorem Jt:∀(l:List Af) (n:Af),Ar (l++ [n])=Ar l+Bo n
 | [],n=>by simp [Ar]
 |k::l,n=>by rw [List.cons_append,Ar,Ar,Jt l n];omega
def Ow(b e Z m:Nat)(W:World)(v:Value):Prop:=∃ns,ns.length=m∧Ax Kt 50 5 W b (fun g=>b≤g∧g<e) ns v∧Pb ns∧Ar ns≤Z
theorem Ow.nil(b e:Nat)(W:World):Ow b e 0 0 W (.slice none 0 0):=⟨[],rfl,.nil,trivial,Nat.le_refl _⟩
theorem Ow.step{b e Z m:Nat}{W W':World}{v:Value}{fp:List Nat}(h:Ow b e Z m W v)(hk:Ac fp W W')(hf:∀x∈fp,x<b∨e≤x):Ow b e Z m W' v:=by
 obtain ⟨ns,h1,h2,h3⟩:=h;exact ⟨ns,h1,h2.kp Dr hk (fun x hx ht=>by have:=hf x hx;omega),h3⟩
theorem Ow.to{b e e' Z Z' m:Nat}{W:World}{v:Value}(h:Ow b e Z m W v)(he:e≤e')(hZ:Z≤Z'):Ow b e' Z' m W v:=by
 obtain ⟨ns,h1,h2,h3,h4⟩:=h;exact ⟨ns,h1,h2.to Dr (fun x hx=>⟨hx.1,Nat.lt_of_lt_of_le hx.2 he⟩),h3,by omega⟩
theorem Ow.kids{b e Z m:Nat}{W:World}{v:Value}(h:Ow b e Z m W v):Kd b Z W v:=by
 obtain ⟨ns,-,h2,h3⟩:=h;exact ⟨ns,(Im h2).keep (Ac.refl [] W) qg (fun x hx=>hx.1),h3⟩
theorem Ow.slice{b e Z m:Nat}{W:World}{v:Value}(h:Ow b e Z m W v):∃a c,v= .slice a m c:=by
 obtain ⟨ns,h1,h2,-⟩:=h;obtain ⟨a,c,hv,-⟩:=h2.slice;exact ⟨a,c,by rw [hv,h1]⟩
theorem Ow.one{b Z:Nat}{W:World}{G:Nat}{a0 a1 a2 a3 a4:Value}(h:W.heap[G]? =some (.cells #[a0,a1,a2,a3,a4] 50 (0,0)))(hb:b≤G)(h1:Nd b Z W (.agg #[a0,a1,a2,a3,a4]))(hG:∀n:Af,Au W (fun g=>b≤g) n (.agg #[a0,a1,a2,a3,a4])→Au W (fun g=>(b≤g∧g<W.heap.size)∧g≠G) n (.agg #[a0,a1,a2,a3,a4])):Ow b W.heap.size Z 1 W (.slice (some ⟨G,0,none⟩) 1 1):=by
 obtain ⟨n,q1,q2,q3⟩:=h1;refine ⟨[n],rfl,Ax.one Dr (c:= [a0,a1,a2,a3,a4]) h hb ⟨hb,Ad h⟩ (S:=fun g=>(b≤g∧g<W.heap.size)∧g≠G) ⟨rfl,hG n q1⟩ (fun g hg=>hg),⟨q2,trivial⟩, ?_⟩;rw [Ar,Ar];omega
theorem Nd.else{b:Nat}{W W':World}{v:Value}{n:Af}(h:Au W (fun g=>b≤g) n v)(hk:Ac [] W W'):Au W' (fun g=>(b≤g∧g<W'.heap.size)∧g≠W.heap.size) n v:=
 h.bound.keep hk qg fun x hx=>⟨⟨hx.1,Nat.lt_of_lt_of_le hx.2 hk.size⟩,Nat.ne_of_lt hx.2⟩
theorem Ow.one'{b Z:Nat}{W W':World}{a0 a1 a2 a3 a4:Value}(h1:Nd b Z W (.agg #[a0,a1,a2,a3,a4]))(hb:b≤W.heap.size)(hk:Ac [] W W')(h:W'.heap[W.heap.size]? =some (.cells #[a0,a1,a2,a3,a4] 50 (0,0))):Ow b W'.heap.size Z 1 W' (.slice (some ⟨W.heap.size,0,none⟩) 1 1):=by
 obtain ⟨n,q1,q2,q3⟩:=h1;refine ⟨[n],rfl,Ax.one Dr (c:= [a0,a1,a2,a3,a4]) h hb ⟨hb,Ad h⟩ (S:=fun g=>(b≤g∧g<W'.heap.size)∧g≠W.heap.size) ⟨rfl,Nd.else q1 hk⟩ (fun g hg=>hg),⟨q2,trivial⟩, ?_⟩;rw [Ar,Ar];omega
theorem XZ{ops:Array Oper}{rest:List Oper}{o:Oper}{a:Act}{V:World}{Q:Exit→Act→World→Prop}(hgd:o.guard=none)(s y:Operand)(ho:o.op= .call {callee:= .builtin .append,args:= #[s,y],argTypes:= #[47,47]}){b e e1 Z Z1 m G cap:Nat}{v c0 c1 c2 c3 c4:Value}(hs:a.eval s=v)(hy:a.eval y= .slice (some ⟨G,0,none⟩) 1 cap)(hO:Ow b e Z m V v)(hG:V.heap[G]? =some (.cells #[c0,c1,c2,c3,c4] 50 (0,0)))(hn:Nd e1 Z1 V (.agg #[c0,c1,c2,c3,c4]))(he:e≤e1)(heV:e≤V.heap.size)(hb:b≤e)(hm:m≤100000)(h:∀v' w' fl,(∀x∈fl,b≤x∧x<e)→Ac fl V w'→Ow b w'.heap.size (Z+Z1) (m+1) w' v'→wpList Tryz.prog ops Q rest (a.put o.dst v') w'):wpList Tryz.prog ops Q (o::rest) a V:=by
 obtain ⟨ns,q1,q2,q3,q4⟩:=hO;obtain ⟨n,p1,p2,p3⟩:=hn;refine RD hgd s y ho hs hy q2 hG p1.bound (fun g h1 h2=>by omega) (fun g h=>h.2) (fun g h=>by omega) jh jh fun v' w' fl hfl hk hw=>h v' w' fl hfl hk ⟨ns++ [n],by simp [q1],hw.to Dr fun x hx=> ?_,Na q3 p2, ?_⟩
 ·have:=hk.size
  rcases hx with hx|hx|hx<;>omega
 rw [Jt];omega
theorem BnR.kpF{M:Bs}{I:Nat}{fn:Bool}{w W W':World}{fl:List Nat}(h:BnR M I fn w W)(hk:Ac fl W W')(hf:∀x∈fl,w.heap.size+1≤x):BnR M I fn w W':=by
 have h1:=h.lt;have h2:=h.fix.hk;exact ⟨⟨h.fix,h.lt,h.mak.kp h.fix hk (fun hm=>by have:=hf _ hm;omega) (fun x hx=>by have:=hf x hx;omega),h.keep.trans hk (fun x hx=> .inr (by have:=hf x hx;omega))⟩,hk.at h.res (fun hm=>by have:=hf _ hm;omega)⟩
def Ro(M:Bs)(fn:Bool)(d:Int)(Z K:Nat):Prop:=∀(I:Nat) (w:World),Bn M I fn w w→I+K≤1000000000000→Calls Tryz.prog 30 #[.pointer (some ⟨M.k,0,none⟩),.int .i64 d] w fun r w'=>Gc M Z K I fn w r w'
def Zz(M:Bs)(fn:Bool)(d:Int)(Z K:Nat):Prop:=∀(I:Nat) (w:World),Bn M I fn w w→I+K≤1000000000000→Calls Tryz.prog 54 #[.pointer (some ⟨M.k,0,none⟩),.int .i64 d] w fun r w'=>Gc M Z K I fn w r w'
def GY(M:Bs)(fn:Bool)(d:Int)(Z K:Nat):Prop:=∀(I:Nat) (w:World),Bn M I fn w w→I+K≤1000000000000→Calls Tryz.prog 57 #[.pointer (some ⟨M.k,0,none⟩),.int .i64 d] w fun r w'=>Gc M Z K I fn w r w'
end Go.Proofs.YtkfillfkbhbbjaaGreatDoor
