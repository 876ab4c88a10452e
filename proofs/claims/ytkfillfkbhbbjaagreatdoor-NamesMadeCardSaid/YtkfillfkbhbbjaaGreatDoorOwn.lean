/- LevelsE, LevelsF, LevelsG, LevelsH, LevelsI, Own. -/
import Derived.Test.YtkfillfkbhbbjaaGreatDoorPLb
import Derived.Deep.AppendLies
set_option maxRecDepth 100000
set_option maxHeartbeats 4000000
set_option linter.unusedSimpArgs false
set_option linter.unusedVariables false
namespace Go.Proofs.YtkfillfkbhbbjaaGreatDoor
open Go.RowKit
theorem OC{s:ByteArray}{p:Nat}{st st':Bq}{n:Af}(hsub:Aw s p st st' n 292)(hl:Hn n=true){t:Ud}(ht:Be s st'.pos false=some t)(h9:t.kind=9)(ha:Gj ⟨#[43,43,32,45,45]⟩ t.text=true):Aw s p st ⟨t.to,st'.opn,st'.ng⟩ (.mk 18 t.text 0 [n] (Ag s t.fr).1 (Ag s t.fr).2) 290:=by
 intro w h;have g_p:=h.p;have HP0:=zh h;have HK0:=zh (Ac.refl [p] w);have HS:=zh hsub;have HL:=zh hl;have HT:=zh ht;have H9:=zh h9;have HA:=zh ha;clear h hsub hl ht h9 ha
 go_enter Tryz.func290,Tryz.ntmps290
 have l_p:=Ad HP0.1.row
 go_wp2_with fail
 refine MR ?_;rintro w1 ⟨Kw1,cw1_R⟩;have ⟨n_p_R,n_R_p⟩:=Ai l_p;have o_R:w.heap.size≤w.heap.size:=Nat.le_refl _;have g_R:14<w.heap.size:=Nat.lt_trans g_p l_p;have HKw1:=zh (HK0.1.trans Kw1 qg);have HPw1:=zh (HP0.1.keep Kw1);have Rw1_R:=zh cw1_R;clear Kw1 cw1_R l_p HK0 HP0;refine (HS.1 _ HPw1.1).mono ?_;rintro r e2 ⟨v,rfl,hn,hp,hk⟩;have Re2_R:=zh (hk.at Rw1_R.1 qk);have HKe2:=zh (HKw1.1.trans hk qg);have HPne2:=zh hp;have ne2:=zh hn.seg;have o_n:w.heap.size≤w1.heap.size:=HKw1.1.size;have ns_n_p:¬(Dm w1.heap.size e2.heap.size) (p):=fun h=>Nat.not_lt_of_le h.1 (Ad HPw1.1.row)
 have ns_n_R:¬(Dm w1.heap.size e2.heap.size) (w.heap.size):=fun h=>Nat.not_lt_of_le h.1 (Ad Rw1_R.1)
 have up_n:∀g,(Dm w1.heap.size e2.heap.size) g→g<e2.heap.size:=fun _ h=>h.2
 have dn_n:∀g,(Dm w1.heap.size e2.heap.size) g→w.heap.size≤g:=fun _ h=>Nat.le_trans o_n h.1
 obtain ⟨nt,nm,na,nl,nc,nr,ni,rfl,-,-⟩:=hn.shape;clear hn hp;clear hk Rw1_R HKw1 HPw1;have l_p:=Ad HPne2.1.row;have l_R:=Ad Re2_R.1
 go_wp2_with fail
 refine zqb ?_;rintro w3 ⟨Kw3,cw3_B⟩;have ⟨n_p_B,n_B_p⟩:=Ai l_p;have ⟨n_R_B,n_B_R⟩:=Ai l_R;have o_B:w.heap.size≤e2.heap.size:=HKe2.1.size;have g_B:14<e2.heap.size:=Nat.lt_trans g_p l_p;have ns_n_B:¬(Dm w1.heap.size e2.heap.size) (e2.heap.size):=fun h=>Nat.not_lt_of_le ((Nat.le_refl e2.heap.size)) (up_n _ h)
 have Rw3_R:=zh (Kw3.at Re2_R.1 qg);have HKw3:=zh (HKe2.1.trans Kw3 qg);have HPw3:=zh (HPne2.1.keep Kw3);have nw3:=zh (ne2.1.kp Kw3 qg);have us_nw3:=Nat.le_trans (Nat.le_refl e2.heap.size) Kw3.size;have Rw3_B:=zh cw3_B;clear Kw3 cw3_B l_p l_R Re2_R HKe2 HPne2 ne2;refine (Eh HPw3.1).mono ?_;rintro r w' ⟨rfl,hw'⟩;rw [hw'];clear hw';have l_p:=Ad HPw3.1.row;have l_R:=Ad Rw3_R.1;obtain ⟨l_B,xB⟩:=Bv Rw3_B.1
 go_wp2_with fail
 clear l_p l_R l_B xB;refine (Js nw3.1).mono ?_;rintro r e4 ⟨rfl,hk⟩;have Re4_R:=zh (hk.at Rw3_R.1 qg);have Re4_B:=zh (hk.at Rw3_B.1 qg);have HKe4:=zh (HKw3.1.trans hk qg);have HPe4:=zh (HPw3.1.keep hk);have ne4:=zh (nw3.1.kp hk qg);have us_ne4:=Nat.le_trans us_nw3 hk.size;clear hk Rw3_R Rw3_B HKw3 HPw3 nw3 us_nw3;have l_p:=Ad HPe4.1.row;have l_R:=Ad Re4_R.1;have l_B:=Ad Re4_B.1;rw [HL.1]
 go_wp2_with fail
 clear l_p l_R l_B;refine (AN HPe4.1 HT.1 ⟨#[43,43,32,45,45]⟩ zi H9.1 HA.1).mono ?_;rintro r e5 ⟨rfl,hp,hk⟩;have Re5_R:=zh (hk.at Re4_R.1 qk);have Re5_B:=zh (hk.at Re4_B.1 qq);have HKe5:=zh (HKe4.1.trans hk qg);have ne5:=zh (ne4.1.kp hk YL);have us_ne5:=Nat.le_trans us_ne4 hk.size;have HPne5:=zh hp;clear hp;clear hk Re4_R Re4_B HKe4 ne4 us_ne4 HPe4;have l_p:=Ad HPne5.1.row;obtain ⟨l_R,xR⟩:=Bv Re5_R.1;obtain ⟨l_B,xB⟩:=Bv Re5_B.1
 go_wp2_with fail
 refine Ap (v:= .agg #[.int .i64 18,.string t.text,.float .f64 0,.slice (some ⟨e5.heap.size,0,none⟩) 1 1,.complex .f64 (Ag s t.fr).1 (Ag s t.fr).2]) (fun W=>Ac [w.heap.size] e5 W∧W.heap[w.heap.size]? =some (.cells #[.int .i64 18,.string t.text,.float .f64 0,.slice (some ⟨e5.heap.size,0,none⟩) 1 1,.complex .f64 (Ag s t.fr).1 (Ag s t.fr).2] 50 (0,0))∧W.heap[e5.heap.size]? =some (.cells #[.int .i64 n.kind,.string nt,.float .f64 nm,.slice na nl nc,.complex .f64 nr ni] 50 (0,0))) ⟨jg,(qb Re5_R.1 l_R),(qb Re5_R.1 l_R)⟩ (fun w6 hW=> ?_) rfl (fun w6 hW=> ?_)
 ·obtain ⟨Kw6,cw6_R,cw6_G⟩:=hW;have q0:=Aa cw6_R 0;have q1:=Aa cw6_R 1;have q2:=Aa cw6_R 2;have q3:=Aa cw6_R 3;have q4:=Aa cw6_R 4;simp at q0 q1 q2 q3 q4;exact UK
 obtain ⟨Kw6,cw6_R,cw6_G⟩:=hW;have ⟨n_p_G,n_G_p⟩:=Ai l_p;have ⟨n_R_G,n_G_R⟩:=Ai l_R;have ⟨n_B_G,n_G_B⟩:=Ai l_B;have o_G:w.heap.size≤e5.heap.size:=HKe5.1.size;have g_G:14<e5.heap.size:=Nat.lt_trans g_p l_p;have ns_n_G:¬(Dm w1.heap.size e2.heap.size) (e5.heap.size):=fun h=>Nat.not_lt_of_le (us_ne5) (up_n _ h)
 have Rw6_B:=zh (Kw6.at Re5_B.1 qx);have HKw6:=zh (HKe5.1.trans Kw6 zp);have HPw6:=zh (HPne5.1.keepN Kw6 jr zt);have nw6:=zh (ne5.1.kp Kw6 qw);have us_nw6:=Nat.le_trans us_ne5 Kw6.size;have Rw6_R:=zh cw6_R;have Rw6_G:=zh cw6_G;clear Kw6 cw6_R cw6_G l_p l_R xR l_B xB Re5_B HKe5 HPne5 ne5 us_ne5 Re5_R;exact ⟨_,rfl,.mk (.some (Nat.le_of_lt_succ (Nat.lt_succ_of_le o_G)) (Ad Rw6_G.1) (row1 nw6.1 dn_n Rw6_G.1)),HPw6.1,HKw6.1⟩
theorem PS{s:ByteArray}{p:Nat}{st st' st2:Bq}{n m:Af}(hsub:Aw s p st st' n 130)(hl:Hn n=true){t:Ud}(ht:Be s st'.pos false=some t)(h9:t.kind=9)(ha:Gj ⟨#[61,32,43,61,32,45,61,32,42,61,32,47,61,32,37,61,32,94,61]⟩ t.text=true)(hr:Aw s p ⟨t.to,st'.opn,st'.ng⟩ st2 m 109):Aw s p st st2 (.mk 7 t.text 0 [n,m] (Ag s t.fr).1 (Ag s t.fr).2) 109:=by
 intro w h;have g_p:=h.p;have HP0:=zh h;have HK0:=zh (Ac.refl [p] w);have HS:=zh hsub;have HL:=zh hl;have HT:=zh ht;have H9:=zh h9;have HA:=zh ha;have HR:=zh hr;clear h hsub hl ht h9 ha hr
 go_enter Tryz.func109,Tryz.ntmps109
 have l_p:=Ad HP0.1.row
 go_wp2_with fail
 refine MR ?_;rintro w1 ⟨Kw1,cw1_R⟩;have ⟨n_p_R,n_R_p⟩:=Ai l_p;have o_R:w.heap.size≤w.heap.size:=Nat.le_refl _;have g_R:14<w.heap.size:=Nat.lt_trans g_p l_p;have HKw1:=zh (HK0.1.trans Kw1 qg);have HPw1:=zh (HP0.1.keep Kw1);have Rw1_R:=zh cw1_R;clear Kw1 cw1_R l_p HK0 HP0;refine (HS.1 _ HPw1.1).mono ?_;rintro r e2 ⟨v,rfl,hn,hp,hk⟩;have Re2_R:=zh (hk.at Rw1_R.1 qk);have HKe2:=zh (HKw1.1.trans hk qg);have HPne2:=zh hp;have ne2:=zh hn.seg;have o_n:w.heap.size≤w1.heap.size:=HKw1.1.size;have ns_n_p:¬(Dm w1.heap.size e2.heap.size) (p):=fun h=>Nat.not_lt_of_le h.1 (Ad HPw1.1.row)
 have ns_n_R:¬(Dm w1.heap.size e2.heap.size) (w.heap.size):=fun h=>Nat.not_lt_of_le h.1 (Ad Rw1_R.1)
 have up_n:∀g,(Dm w1.heap.size e2.heap.size) g→g<e2.heap.size:=fun _ h=>h.2
 have dn_n:∀g,(Dm w1.heap.size e2.heap.size) g→w.heap.size≤g:=fun _ h=>Nat.le_trans o_n h.1
 obtain ⟨nt,nm,na,nl,nc,nr,ni,rfl,-,-⟩:=hn.shape;clear hn hp;clear hk Rw1_R HKw1 HPw1;have l_p:=Ad HPne2.1.row;have l_R:=Ad Re2_R.1
 go_wp2_with fail
 refine zqb ?_;rintro w3 ⟨Kw3,cw3_B⟩;have ⟨n_p_B,n_B_p⟩:=Ai l_p;have ⟨n_R_B,n_B_R⟩:=Ai l_R;have o_B:w.heap.size≤e2.heap.size:=HKe2.1.size;have g_B:14<e2.heap.size:=Nat.lt_trans g_p l_p;have ns_n_B:¬(Dm w1.heap.size e2.heap.size) (e2.heap.size):=fun h=>Nat.not_lt_of_le ((Nat.le_refl e2.heap.size)) (up_n _ h)
 have Rw3_R:=zh (Kw3.at Re2_R.1 qg);have HKw3:=zh (HKe2.1.trans Kw3 qg);have HPw3:=zh (HPne2.1.keep Kw3);have nw3:=zh (ne2.1.kp Kw3 qg);have us_nw3:=Nat.le_trans (Nat.le_refl e2.heap.size) Kw3.size;have Rw3_B:=zh cw3_B;clear Kw3 cw3_B l_p l_R Re2_R HKe2 HPne2 ne2;refine (Eh HPw3.1).mono ?_;rintro r w' ⟨rfl,hw'⟩;rw [hw'];clear hw';have l_p:=Ad HPw3.1.row;have l_R:=Ad Rw3_R.1;obtain ⟨l_B,xB⟩:=Bv Rw3_B.1
 go_wp2_with fail
 clear l_p l_R l_B xB;refine (Js nw3.1).mono ?_;rintro r e4 ⟨rfl,hk⟩;have Re4_R:=zh (hk.at Rw3_R.1 qg);have Re4_B:=zh (hk.at Rw3_B.1 qg);have HKe4:=zh (HKw3.1.trans hk qg);have HPe4:=zh (HPw3.1.keep hk);have ne4:=zh (nw3.1.kp hk qg);have us_ne4:=Nat.le_trans us_nw3 hk.size;clear hk Rw3_R Rw3_B HKw3 HPw3 nw3 us_nw3;have l_p:=Ad HPe4.1.row;have l_R:=Ad Re4_R.1;have l_B:=Ad Re4_B.1;rw [HL.1]
 go_wp2_with fail
 clear l_p l_R l_B;refine (AN HPe4.1 HT.1 ⟨#[61,32,43,61,32,45,61,32,42,61,32,47,61,32,37,61,32,94,61]⟩ zi H9.1 HA.1).mono ?_;rintro r e5 ⟨rfl,hp,hk⟩;have Re5_R:=zh (hk.at Re4_R.1 qk);have Re5_B:=zh (hk.at Re4_B.1 qq);have HKe5:=zh (HKe4.1.trans hk qg);have ne5:=zh (ne4.1.kp hk YL);have us_ne5:=Nat.le_trans us_ne4 hk.size;have HPne5:=zh hp;clear hp;clear hk Re4_R Re4_B HKe4 ne4 us_ne4 HPe4;have l_p:=Ad HPne5.1.row;obtain ⟨l_R,xR⟩:=Bv Re5_R.1;obtain ⟨l_B,xB⟩:=Bv Re5_B.1
 go_upto_region 7 with fail
 have HCm:=zh (Wu HR.1 HPne5.1)
 go_upto_region 7 with fail
 go_cut [] (fun W=>∃(u_:World) (mt:ByteArray) (mm:Nat) (ma:Option Addr) (ml mc mr mi:Nat),Au u_ (Dm e5.heap.size u_.heap.size) m (.agg #[.int .i64 m.kind,.string mt,.float .f64 mm,.slice ma ml mc,.complex .f64 mr mi])∧PP s p ⟨st2.pos,st2.opn,st2.ng⟩ u_∧Ac [p] e5 u_∧Ac [w.heap.size] u_ W∧W.heap[w.heap.size]? =some (.cells #[.int .i64 7,.string t.text,.float .f64 0,.slice (some ⟨u_.heap.size,0,none⟩) 2 2,.complex .f64 (Ag s t.fr).1 (Ag s t.fr).2] 50 (0,0))∧W.heap[u_.heap.size]? =some (.cells #[.int .i64 n.kind,.string nt,.float .f64 nm,.slice na nl nc,.complex .f64 nr ni,.int .i64 m.kind,.string mt,.float .f64 mm,.slice ma ml mc,.complex .f64 mr mi] 50 (0,0)))
 case first=>
  go_region_law ((refine Bd (f:=109) (vals:= #[.pointer (some ⟨p,0,none⟩)]) rfl _ rfl qh (HCm.1 _ jg) ?_;rintro v u_ ⟨hn,hp,hk⟩;obtain ⟨mt,mm,ma,ml,mc,mr,mi,rfl,-,-⟩:=hn.shape;have r_R:=hk.at Re5_R.1 qk;have l_R:=Ad r_R;have zR_0:=Aa r_R 0;have zfR_0:=Ab r_R 0;have zR_1:=Aa r_R 1;have zfR_1:=Ab r_R 1;have zR_2:=Aa r_R 2;have zfR_2:=Ab r_R 2;have zR_3:=Aa r_R 3;have zfR_3:=Ab r_R 3;have zR_4:=Aa r_R 4;have zfR_4:=Ab r_R 4;simp at zR_0 zR_1 zR_2 zR_3 zR_4;have r_B:=hk.at Re5_B.1 qq;have l_B:=Ad r_B;have zB_0:=Aa r_B 0;have zfB_0:=Ab r_B 0;have zB_1:=Aa r_B 1;have zfB_1:=Ab r_B 1;have zB_2:=Aa r_B 2;have zfB_2:=Ab r_B 2;have zB_3:=Aa r_B 3;have zfB_3:=Ab r_B 3;have zB_4:=Aa r_B 4;have zfB_4:=Ab r_B 4;simp at zB_0 zB_1 zB_2 zB_3 zB_4))
  all_goals
   go_wp2_with fail
   go_meet
   case rel=>exact ⟨u_,mt,mm,ma,ml,mc,mr,mi,hn,hp,hk,jg,(qb r_R l_R),(qb r_R l_R)⟩
 clear l_p l_R xR l_B xB;obtain ⟨e6,mt,mm,ma,ml,mc,mr,mi,hn,hp,hk,Kw7,cc_R,cc_G⟩:=hcut;have Re6_R:=zh (hk.at Re5_R.1 qk);have Re6_B:=zh (hk.at Re5_B.1 qq);have HKe6:=zh (HKe5.1.trans hk qg);have ne6:=zh (ne5.1.kp hk YL);have us_ne6:=Nat.le_trans us_ne5 hk.size;have HPne6:=zh hp;have me6:=zh hn;have o_m:w.heap.size≤e5.heap.size:=HKe5.1.size;have ns_m_p:¬(Dm e5.heap.size e6.heap.size) (p):=fun h=>Nat.not_lt_of_le h.1 (Ad HPne5.1.row)
 have ns_m_R:¬(Dm e5.heap.size e6.heap.size) (w.heap.size):=fun h=>Nat.not_lt_of_le h.1 (Ad Re5_R.1)
 have ns_m_B:¬(Dm e5.heap.size e6.heap.size) (e2.heap.size):=fun h=>Nat.not_lt_of_le h.1 (Ad Re5_B.1)
 have up_m:∀g,(Dm e5.heap.size e6.heap.size) g→g<e6.heap.size:=fun _ h=>h.2
 have dn_m:∀g,(Dm e5.heap.size e6.heap.size) g→w.heap.size≤g:=fun _ h=>Nat.le_trans o_m h.1
 clear hn hp;clear hk Re5_R Re5_B HKe5 ne5 us_ne5 HPne5;have l_p:=Ad HPne6.1.row;have l_R:=Ad Re6_R.1;have l_B:=Ad Re6_B.1;generalize wc=w7 at*
 have cw7_R:=cc_R;clear cc_R;have cw7_G:=cc_G;clear cc_G;have ⟨n_p_G,n_G_p⟩:=Ai l_p;have ⟨n_R_G,n_G_R⟩:=Ai l_R;have ⟨n_B_G,n_G_B⟩:=Ai l_B;have o_G:w.heap.size≤e6.heap.size:=HKe6.1.size;have g_G:14<e6.heap.size:=Nat.lt_trans g_p l_p;have ns_n_G:¬(Dm w1.heap.size e2.heap.size) (e6.heap.size):=fun h=>Nat.not_lt_of_le (us_ne6) (up_n _ h)
 have ns_m_G:¬(Dm e5.heap.size e6.heap.size) (e6.heap.size):=fun h=>Nat.not_lt_of_le ((Nat.le_refl e6.heap.size)) (up_m _ h)
 have Rw7_B:=zh (Kw7.at Re6_B.1 qx);have HKw7:=zh (HKe6.1.trans Kw7 zp);have HPw7:=zh (HPne6.1.keepN Kw7 jr zt);have nw7:=zh (ne6.1.kp Kw7 qw);have us_nw7:=Nat.le_trans us_ne6 Kw7.size;have mw7:=zh (me6.1.kp Kw7 (by simp [ns_m_R]));have us_mw7:=Nat.le_trans (Nat.le_refl e6.heap.size) Kw7.size;have Rw7_R:=zh cw7_R;have Rw7_G:=zh cw7_G;clear Kw7 cw7_R cw7_G l_p l_R l_B Re6_B HKe6 HPne6 ne6 us_ne6 me6 Re6_R;have l_p:=Ad HPw7.1.row;obtain ⟨l_R,xR⟩:=Bv Rw7_R.1;have l_B:=Ad Rw7_B.1;have l_G:=Ad Rw7_G.1
 go_wp2_with fail
 refine Ap (v:= .agg #[.int .i64 7,.string t.text,.float .f64 0,.slice (some ⟨e6.heap.size,0,none⟩) 2 2,.complex .f64 (Ag s t.fr).1 (Ag s t.fr).2]) (fun W=>Ac [] w7 W) jg (fun w8 hW=> ?_) rfl (fun w8 hW=> ?_)
 ·have Kw8:Ac [] w7 w8:=hW;have q0:=Aa (Kw8.at Rw7_R.1 qg) 0;have q1:=Aa (Kw8.at Rw7_R.1 qg) 1;have q2:=Aa (Kw8.at Rw7_R.1 qg) 2;have q3:=Aa (Kw8.at Rw7_R.1 qg) 3;have q4:=Aa (Kw8.at Rw7_R.1 qg) 4;simp at q0 q1 q2 q3 q4;exact UK
 have Kw8:Ac [] w7 w8:=hW;have Rw8_R:=zh (Kw8.at Rw7_R.1 qg);have Rw8_B:=zh (Kw8.at Rw7_B.1 qg);have Rw8_G:=zh (Kw8.at Rw7_G.1 qg);have HKw8:=zh (HKw7.1.trans Kw8 qg);have HPw8:=zh (HPw7.1.keep Kw8);have nw8:=zh (nw7.1.kp Kw8 qg);have us_nw8:=Nat.le_trans us_nw7 Kw8.size;have mw8:=zh (mw7.1.kp Kw8 qg);have us_mw8:=Nat.le_trans us_mw7 Kw8.size;clear Kw8 l_p l_R xR l_B l_G Rw7_R Rw7_B Rw7_G HKw7 HPw7 nw7 us_nw7 mw7 us_mw7;exact ⟨_,rfl,.mk (.some (S:=fun g=>w.heap.size≤g) o_G (Ad Rw8_G.1) (row2 nw8.1 dn_n mw8.1 dn_m Rw8_G.1)),HPw8.1,HKw8.1⟩
theorem UT{s:ByteArray}{p:Nat}{st:Bq}{w:World}(h:PP s p st w){kd:Int}{tx:ByteArray}{nm fr te:Nat}(ht:Be s st.pos false=some ⟨2,tx,nm,fr,te⟩)  :Calls Tryz.prog 274 #[.pointer (some ⟨p,0,none⟩)] w fun r w'=>r= .returned (.bool true)∧Ac [] w w':=by
 have g_p:=h.p;have HP0:=zh h;have HK0:=zh (Ac.refl [] w);have HT:=zh ht;clear h ht
 go_enter Tryz.func274,Tryz.ntmps274
 have l_p:=Ad HP0.1.row
 go_wp2_with fail
 clear l_p;refine WA ?_;rintro r w' ⟨rfl,hw'⟩;rw [hw'];clear hw';obtain ⟨l_p,xp⟩:=JO HP0.1.row
 go_wp2_with fail
 clear l_p xp;refine WT ?_;rintro r e1 ⟨rfl,hk⟩;have HKe1:=zh (HK0.1.trans hk qg);have HPe1:=zh (HP0.1.keep hk);clear hk HK0 HP0;have l_p:=Ad HPe1.1.row
 go_wp2_with fail
 refine Ap (v:= .bool true) (fun W=>Ac [] e1 W∧W.heap[e1.heap.size]? =some (.cells #[.int .i64 2,.string tx,.float .f64 nm,.int .i64 fr,.int .i64 te] 90 (0,0))) ⟨jg,jb⟩ (fun w2 hW=> ?_) rfl (fun w2 hW=> ?_)
 ·obtain ⟨Kw2,cw2_T⟩:=hW;exact Le
 obtain ⟨Kw2,cw2_T⟩:=hW;exact YW
theorem US{s:ByteArray}{p:Nat}{st:Bq}{w:World}(h:PP s p st w){kd:Int}{tx:ByteArray}{nm fr te:Nat}(ht:Be s st.pos false=some ⟨3,tx,nm,fr,te⟩)  :Calls Tryz.prog 274 #[.pointer (some ⟨p,0,none⟩)] w fun r w'=>r= .returned (.bool true)∧Ac [] w w':=by
 have g_p:=h.p;have HP0:=zh h;have HK0:=zh (Ac.refl [] w);have HT:=zh ht;clear h ht
 go_enter Tryz.func274,Tryz.ntmps274
 have l_p:=Ad HP0.1.row
 go_wp2_with fail
 clear l_p;refine WA ?_;rintro r w' ⟨rfl,hw'⟩;rw [hw'];clear hw';obtain ⟨l_p,xp⟩:=JO HP0.1.row
 go_wp2_with fail
 clear l_p xp;refine WT ?_;rintro r e1 ⟨rfl,hk⟩;have HKe1:=zh (HK0.1.trans hk qg);have HPe1:=zh (HP0.1.keep hk);clear hk HK0 HP0;have l_p:=Ad HPe1.1.row
 go_wp2_with fail
 refine Ap (v:= .bool true) (fun W=>Ac [] e1 W∧W.heap[e1.heap.size]? =some (.cells #[.int .i64 3,.string tx,.float .f64 nm,.int .i64 fr,.int .i64 te] 90 (0,0))) ⟨jg,jb⟩ (fun w2 hW=> ?_) rfl (fun w2 hW=> ?_)
 ·obtain ⟨Kw2,cw2_T⟩:=hW;exact Le
 obtain ⟨Kw2,cw2_T⟩:=hW;exact YW
theorem UR{s:ByteArray}{p:Nat}{st:Bq}{w:World}(h:PP s p st w){kd:Int}{tx:ByteArray}{nm fr te:Nat}(ht:Be s st.pos false=some ⟨5,tx,nm,fr,te⟩)  :Calls Tryz.prog 274 #[.pointer (some ⟨p,0,none⟩)] w fun r w'=>r= .returned (.bool true)∧Ac [] w w':=by
 have g_p:=h.p;have HP0:=zh h;have HK0:=zh (Ac.refl [] w);have HT:=zh ht;clear h ht
 go_enter Tryz.func274,Tryz.ntmps274
 have l_p:=Ad HP0.1.row
 go_wp2_with fail
 clear l_p;refine WA ?_;rintro r w' ⟨rfl,hw'⟩;rw [hw'];clear hw';obtain ⟨l_p,xp⟩:=JO HP0.1.row
 go_wp2_with fail
 clear l_p xp;refine WT ?_;rintro r e1 ⟨rfl,hk⟩;have HKe1:=zh (HK0.1.trans hk qg);have HPe1:=zh (HP0.1.keep hk);clear hk HK0 HP0;have l_p:=Ad HPe1.1.row
 go_wp2_with fail
 refine Ap (v:= .bool true) (fun W=>Ac [] e1 W∧W.heap[e1.heap.size]? =some (.cells #[.int .i64 5,.string tx,.float .f64 nm,.int .i64 fr,.int .i64 te] 90 (0,0))) ⟨jg,jb⟩ (fun w2 hW=> ?_) rfl (fun w2 hW=> ?_)
 ·obtain ⟨Kw2,cw2_T⟩:=hW;exact Le
 obtain ⟨Kw2,cw2_T⟩:=hW;exact YW
theorem UQ{s:ByteArray}{p:Nat}{st:Bq}{w:World}(h:PP s p st w){kd:Int}{tx:ByteArray}{nm fr te:Nat}(ht:Be s st.pos false=some ⟨6,tx,nm,fr,te⟩)  :Calls Tryz.prog 274 #[.pointer (some ⟨p,0,none⟩)] w fun r w'=>r= .returned (.bool true)∧Ac [] w w':=by
 have g_p:=h.p;have HP0:=zh h;have HK0:=zh (Ac.refl [] w);have HT:=zh ht;clear h ht
 go_enter Tryz.func274,Tryz.ntmps274
 have l_p:=Ad HP0.1.row
 go_wp2_with fail
 clear l_p;refine WA ?_;rintro r w' ⟨rfl,hw'⟩;rw [hw'];clear hw';obtain ⟨l_p,xp⟩:=JO HP0.1.row
 go_wp2_with fail
 clear l_p xp;refine WT ?_;rintro r e1 ⟨rfl,hk⟩;have HKe1:=zh (HK0.1.trans hk qg);have HPe1:=zh (HP0.1.keep hk);clear hk HK0 HP0;have l_p:=Ad HPe1.1.row
 go_wp2_with fail
 refine Ap (v:= .bool true) (fun W=>Ac [] e1 W∧W.heap[e1.heap.size]? =some (.cells #[.int .i64 6,.string tx,.float .f64 nm,.int .i64 fr,.int .i64 te] 90 (0,0))) ⟨jg,jb⟩ (fun w2 hW=> ?_) rfl (fun w2 hW=> ?_)
 ·obtain ⟨Kw2,cw2_T⟩:=hW;exact Le
 obtain ⟨Kw2,cw2_T⟩:=hW;exact YW
theorem UP{s:ByteArray}{p:Nat}{st:Bq}{w:World}(h:PP s p st w){kd:Int}{tx:ByteArray}{nm fr te:Nat}(ht:Be s st.pos false=some ⟨7,tx,nm,fr,te⟩)  :Calls Tryz.prog 274 #[.pointer (some ⟨p,0,none⟩)] w fun r w'=>r= .returned (.bool true)∧Ac [] w w':=by
 have g_p:=h.p;have HP0:=zh h;have HK0:=zh (Ac.refl [] w);have HT:=zh ht;clear h ht
 go_enter Tryz.func274,Tryz.ntmps274
 have l_p:=Ad HP0.1.row
 go_wp2_with fail
 clear l_p;refine WA ?_;rintro r w' ⟨rfl,hw'⟩;rw [hw'];clear hw';obtain ⟨l_p,xp⟩:=JO HP0.1.row
 go_wp2_with fail
 clear l_p xp;refine WT ?_;rintro r e1 ⟨rfl,hk⟩;have HKe1:=zh (HK0.1.trans hk qg);have HPe1:=zh (HP0.1.keep hk);clear hk HK0 HP0;have l_p:=Ad HPe1.1.row
 go_wp2_with fail
 refine Ap (v:= .bool true) (fun W=>Ac [] e1 W∧W.heap[e1.heap.size]? =some (.cells #[.int .i64 7,.string tx,.float .f64 nm,.int .i64 fr,.int .i64 te] 90 (0,0))) ⟨jg,jb⟩ (fun w2 hW=> ?_) rfl (fun w2 hW=> ?_)
 ·obtain ⟨Kw2,cw2_T⟩:=hW;exact Le
 obtain ⟨Kw2,cw2_T⟩:=hW;exact YW
theorem UO{s:ByteArray}{p:Nat}{st:Bq}{w:World}(h:PP s p st w){kd:Int}{tx:ByteArray}{nm fr te:Nat}(ht:Be s st.pos false=some ⟨9,tx,nm,fr,te⟩)  :Calls Tryz.prog 274 #[.pointer (some ⟨p,0,none⟩)] w fun r w'=>r= .returned (.bool (Gj ⟨#[36,32,40,32,43,43,32,45,45]⟩ tx))∧Ac [] w w':=by
 have g_p:=h.p;have HP0:=zh h;have HK0:=zh (Ac.refl [] w);have HT:=zh ht;have HA:=zh (fun W=>Fl ⟨#[36,32,40,32,43,43,32,45,45]⟩ tx zi W);clear h ht
 go_enter Tryz.func274,Tryz.ntmps274
 have l_p:=Ad HP0.1.row
 go_wp2_with fail
 clear l_p;refine WA ?_;rintro r w' ⟨rfl,hw'⟩;rw [hw'];clear hw';obtain ⟨l_p,xp⟩:=JO HP0.1.row
 go_wp2_with fail
 clear l_p xp;refine WT ?_;rintro r e1 ⟨rfl,hk⟩;have HKe1:=zh (HK0.1.trans hk qg);have HPe1:=zh (HP0.1.keep hk);clear hk HK0 HP0;have l_p:=Ad HPe1.1.row
 go_wp2_with fail
 refine jrb ?_;rintro w2 ⟨Kw2,cw2_T⟩;have ⟨n_p_T,n_T_p⟩:=Ai l_p;have o_T:w.heap.size≤e1.heap.size:=HKe1.1.size;have g_T:14<e1.heap.size:=Nat.lt_trans g_p l_p;have HKw2:=zh (HKe1.1.trans Kw2 qg);have HPw2:=zh (HPe1.1.keep Kw2);have Rw2_T:=zh cw2_T;clear Kw2 cw2_T l_p HKe1 HPe1;refine (HA.1 _).mono ?_;rintro r w' ⟨rfl,hw'⟩;rw [hw'];clear hw';have l_p:=Ad HPw2.1.row;have l_T:=Ad Rw2_T.1
 go_wp2_with fail
 refine Ap (v:= .bool (Gj ⟨#[36,32,40,32,43,43,32,45,45]⟩ tx)) (fun W=>Ac [] w2 W) jg (fun w3 hW=> ?_) rfl (fun w3 hW=> ?_)
 ·have Kw3:Ac [] w2 w3:=hW;exact Le
 have Kw3:Ac [] w2 w3:=hW;have Rw3_T:=zh (Kw3.at Rw2_T.1 qg);have HKw3:=zh (HKw2.1.trans Kw3 qg);have HPw3:=zh (HPw2.1.keep Kw3);clear Kw3 l_p l_T Rw2_T HKw2 HPw2;exact ⟨rfl,HKw3.1⟩
theorem LP{s:ByteArray}{p:Nat}{st:Bq}{w:World}(h:PP s p st w){kd:Int}{tx:ByteArray}{nm fr te:Nat}(ht:Be s st.pos false=some ⟨kd,tx,nm,fr,te⟩)(n2:(kd==2)=false)(n3:(kd==3)=false)(n5:(kd==5)=false)(n6:(kd==6)=false)(n7:(kd==7)=false)(n9:(kd==9)=false):Calls Tryz.prog 274 #[.pointer (some ⟨p,0,none⟩)] w fun r w'=>r= .returned (.bool false)∧Ac [] w w':=by
 have g_p:=h.p;have HP0:=zh h;have HK0:=zh (Ac.refl [] w);have HT:=zh ht;clear h ht
 go_enter Tryz.func274,Tryz.ntmps274
 have l_p:=Ad HP0.1.row
 go_wp2_with fail
 clear l_p;refine WA ?_;rintro r w' ⟨rfl,hw'⟩;rw [hw'];clear hw';obtain ⟨l_p,xp⟩:=JO HP0.1.row
 go_wp2_with fail
 clear l_p xp;refine WT ?_;rintro r e1 ⟨rfl,hk⟩;have HKe1:=zh (HK0.1.trans hk qg);have HPe1:=zh (HP0.1.keep hk);clear hk HK0 HP0;have l_p:=Ad HPe1.1.row
 go_wp2_with fail
 refine Ap (v:= .bool false) (fun W=>Ac [] e1 W∧W.heap[e1.heap.size]? =some (.cells #[.int .i64 kd,.string tx,.float .f64 nm,.int .i64 fr,.int .i64 te] 90 (0,0))) ⟨jg,jb⟩ (fun w2 hW=> ?_) rfl (fun w2 hW=> ?_)
 ·obtain ⟨Kw2,cw2_T⟩:=hW;exact Le
 obtain ⟨Kw2,cw2_T⟩:=hW;exact YW
theorem PO{s:ByteArray}{p:Nat}{st:Bq}{w:World}(h:PP s p st w){b:Bool}(hx:JA s st=some b):Calls Tryz.prog 274 #[.pointer (some ⟨p,0,none⟩)] w fun r w'=>r= .returned (.bool b)∧Ac [] w w':=by
 unfold JA at hx
 cases ht:Be s st.pos false with
 |none=>rw [ht] at hx;simp at hx
 | some t=>
  rw [ht] at hx;obtain ⟨kd,tx,nm,fr,te⟩:=t;simp only [Option.bind_eq_bind,Option.bind_some] at hx
  by_cases h5:kd=2∨kd=3∨kd=5∨kd=6∨kd=7
  ·rw [if_pos h5] at hx;obtain rfl:=Option.some.inj hx
   rcases h5 with rfl|rfl|rfl|rfl|rfl
   ·exact UT (kd:=0) h ht
   ·exact US (kd:=0) h ht
   ·exact UR (kd:=0) h ht
   ·exact UQ (kd:=0) h ht
   exact UP (kd:=0) h ht
  rw [if_neg h5] at hx
  by_cases h9:kd=9
  ·subst h9;rw [if_pos rfl] at hx;obtain rfl:=Option.some.inj hx;exact UO (kd:=0) h ht
  rw [if_neg h9] at hx;obtain rfl:=Option.some.inj hx;simp only [not_or] at h5;exact LP h ht (beq_false_of_ne h5.1) (beq_false_of_ne h5.2.1) (beq_false_of_ne h5.2.2.1) (beq_false_of_ne h5.2.2.2.1) (beq_false_of_ne h5.2.2.2.2) (beq_false_of_ne h9)
def WI(s:ByteArray)(p R B:Nat)(w:World)(G:Nat→Af→Bq→Prop)(g:Nat)(wr:World):Prop:=
 ∃(n:Af) (st:Bq) (nt:ByteArray) (nm:Nat) (na:Option Addr) (nl nc nr ni:Nat) (S:Nat→Prop) (U:Nat),G g n st∧Au wr S n (.agg #[.int .i64 n.kind,.string nt,.float .f64 nm,.slice na nl nc,.complex .f64 nr ni])∧
  (∀x,S x→x<U)∧U≤wr.heap.size∧(∀x,S x→w.heap.size≤x)∧¬S p∧¬S R∧¬S B∧PP s p st wr∧Ac [p] w wr∧wr.heap[R]? =some (.cells #[.int .i64 0,.string ⟨#[]⟩,.float .f64 0,.slice none 0 0,.complex .f64 0 0] 50 (0,0))∧
  wr.heap[B]? =some (.cells #[.int .i64 n.kind,.string nt,.float .f64 nm,.slice na nl nc,.complex .f64 nr ni] 50 (0,0))
theorem Au.reim{w:World}{S:Nat→Prop}{n:Af}{a b c d:Value}{re im:Nat}(h:Au w S n (.agg #[a,b,c,d,.complex .f64 re im])):re=n.re∧im=n.im:=by
 cases h;exact ⟨rfl,rfl⟩
theorem Sj{s:ByteArray}{st st2:Bq}{sg:ByteArray}(h:Xy s st sg=some (none,st2)):st2=st∧En s st sg=some ():=by
 have h2:En s st sg=some ():=by rw [En,h];rfl
 refine ⟨?_,h2⟩;rw [Xy] at h
 cases ht:Be s st.pos false with
 |none=>rw [ht] at h;simp at h
 |some t=>
  rw [ht] at h;simp only [Option.bind_eq_bind,Option.bind_some] at h
  split at h
  ·simp at h
  simpa using h.symm
theorem Si{s:ByteArray}{st st2:Bq}{sg x:ByteArray}{re im:Nat}(h:Xy s st sg=some (some (x,re,im),st2)):∃t,Be s st.pos false=some t∧t.kind=9∧Gj sg t.text=true∧x=t.text∧re=(Ag s t.fr).1∧im=(Ag s t.fr).2∧st2=⟨t.to,st.opn,st.ng⟩:=by
 rw [Xy] at h
 cases ht:Be s st.pos false with
 |none=>rw [ht] at h;simp at h
 |some t=>
  rw [ht] at h;simp only [Option.bind_eq_bind,Option.bind_some] at h
  split at h
  ·rename_i hc;simp only [Bool.and_eq_true,beq_iff_eq] at hc;simp only [Option.some.injEq,Prod.mk.injEq] at h;obtain ⟨⟨h1,h2⟩,h3⟩:=h;have h4:Ag s t.fr=(re,im):=h2;exact ⟨t,rfl,hc.1,hc.2,h1.symm,by rw [h4],by rw [h4],h3.symm⟩
  simp at h
theorem WN{s:ByteArray}{p:Nat}{st st':Bq}{n':Af}{rec:Zx}(hrec:∀st st' n,rec .product st=some (n,st')→Aw s p st st' n 281)(hx:step s rec .sum st=some (n',st')):Aw s p st st' n' 273:=by
 simp only [step] at hx
 cases h1:rec .product st with
 |none=>rw [h1] at hx;simp at hx
 | some y=>
  rw [h1] at hx;obtain ⟨n,st1⟩:=y;simp only [Option.bind_eq_bind,Option.bind_some] at hx;have hsub:=hrec _ _ _ h1;intro w h;have g_p:=h.p;have HP0:=zh h;have HK0:=zh (Ac.refl [p] w);have HS1:=zh hsub;have HRec:=zh hrec;have HG:=zh hx;clear h hsub hrec hx h1
  go_enter Tryz.func273,Tryz.ntmps273
  have l_p:=Ad HP0.1.row
  go_wp2_with fail
  refine MR ?_;rintro w1 ⟨Kw1,cw1_R⟩;have ⟨n_p_R,n_R_p⟩:=Ai l_p;have o_R:w.heap.size≤w.heap.size:=Nat.le_refl _;have g_R:14<w.heap.size:=Nat.lt_trans g_p l_p;have HKw1:=zh (HK0.1.trans Kw1 qg);have HPw1:=zh (HP0.1.keep Kw1);have Rw1_R:=zh cw1_R;clear Kw1 cw1_R l_p HK0 HP0;refine (HS1.1 _ HPw1.1).mono ?_;rintro r e2 ⟨v,rfl,hn,hp,hk⟩;have Re2_R:=zh (hk.at Rw1_R.1 qk);have HKe2:=zh (HKw1.1.trans hk qg);have HPne2:=zh hp;have ne2:=zh hn.seg;have o_n:w.heap.size≤w1.heap.size:=HKw1.1.size;have ns_n_p:¬(Dm w1.heap.size e2.heap.size) (p):=fun h=>Nat.not_lt_of_le h.1 (Ad HPw1.1.row)
  have ns_n_R:¬(Dm w1.heap.size e2.heap.size) (w.heap.size):=fun h=>Nat.not_lt_of_le h.1 (Ad Rw1_R.1)
  have up_n:∀g,(Dm w1.heap.size e2.heap.size) g→g<e2.heap.size:=fun _ h=>h.2
  have dn_n:∀g,(Dm w1.heap.size e2.heap.size) g→w.heap.size≤g:=fun _ h=>Nat.le_trans o_n h.1
  obtain ⟨nt,nm,na,nl,nc,nr,ni,rfl,-,-⟩:=hn.shape;clear hn hp;clear hk Rw1_R HKw1 HPw1;have l_p:=Ad HPne2.1.row;have l_R:=Ad Re2_R.1
  go_wp2_with fail
  refine qrb ?_;rintro w3 ⟨Kw3,cw3_B⟩;have ⟨n_p_B,n_B_p⟩:=Ai l_p;have ⟨n_R_B,n_B_R⟩:=Ai l_R;have o_B:w.heap.size≤e2.heap.size:=HKe2.1.size;have g_B:14<e2.heap.size:=Nat.lt_trans g_p l_p;have ns_n_B:¬(Dm w1.heap.size e2.heap.size) (e2.heap.size):=fun h=>Nat.not_lt_of_le ((Nat.le_refl e2.heap.size)) (up_n _ h)
  have Rw3_R:=zh (Kw3.at Re2_R.1 qg);have HKw3:=zh (HKe2.1.trans Kw3 qg);have HPw3:=zh (HPne2.1.keep Kw3);have nw3:=zh (ne2.1.kp Kw3 qg);have us_nw3:=Nat.le_trans (Nat.le_refl e2.heap.size) Kw3.size;have Rw3_B:=zh cw3_B;clear Kw3 cw3_B l_p l_R Re2_R HKe2 HPne2 ne2
  go_loopg [] 50 (fun g wr=>WI s p w.heap.size e2.heap.size w (fun g n st=>NA s rec g n st=some (n',st')) g wr)
  case atStart=>exact zsb
  clear HG;obtain ⟨n1,st1,nt,nm,na,nl,nc,nr,ni,S,U,hG,hn,up_n,us_n,dn_n,ns_n_p,ns_n_R,ns_n_B,hp,hk,hR,hB⟩:=hrel;have HN1:=zh hn;have HPr:=zh hp;have HKr:=zh hk;have RR:=zh hR;have RB:=zh hB;clear hn hp hk hR hB
  cases gk with
  |zero=>simp [NA] at hG
  | succ f=>
   rw [NA] at hG
   cases ho:Xy s st1 Yu with
   |none=>rw [ho] at hG;simp at hG
   | some y=>
    rw [ho] at hG;obtain ⟨x,st2⟩:=y;simp only [Option.bind_eq_bind,Option.bind_some] at hG
    cases x with
    |none=>
     obtain ⟨rfl,hno⟩:=Sj ho;simp only [Option.some.injEq,Prod.mk.injEq] at hG;obtain ⟨rfl,rfl⟩:=hG;have HO:=zh hno;clear ho hno;have l_p:=Ad HPr.1.row;have l_R:=Ad RR.1;have l_B:=Ad RB.1
     go_wp2_with fail
     clear l_p l_R l_B;refine (Mz HPr.1 HO.1 zi).mono ?_;exact qud
    | some y=>
     obtain ⟨x,re,im⟩:=y;obtain ⟨t,ht,h9,ha,rfl,rfl,rfl,rfl⟩:=Si ho;simp only at hG
     cases hm:rec .product ⟨t.to,st1.opn,st1.ng⟩ with
     |none=>rw [hm] at hG;simp at hG
     | some y=>
      rw [hm] at hG;obtain ⟨m,st2⟩:=y;simp only [Option.bind_some] at hG;have HM:=zh (HRec.1 _ _ _ hm);have HF:=zh hG;have HT:=zh ht;have H9:=zh h9;have HA:Hd (Gj ⟨#[43,32,45]⟩ t.text=true):=zh ha;clear hm hG ht h9 ha ho;have l_p:=Ad HPr.1.row;have l_R:=Ad RR.1;have l_B:=Ad RB.1
      go_wp2_with fail
      clear l_p l_R l_B;refine (AN HPr.1 HT.1 ⟨#[43,32,45]⟩ zi H9.1 HA.1).mono ?_;rintro r e51 ⟨rfl,hp,hk⟩;have Re51_R:=zh (hk.at RR.1 qk);have Re51_B:=zh (hk.at RB.1 qq);have HKe51:=zh (HKr.1.trans hk qg);have ne51:=zh (HN1.1.kp hk YL);have us_ne51:=Nat.le_trans us_n hk.size;have HPne51:=zh hp;clear hp;clear hk RR RB HKr HN1 us_n HPr;have l_p:=Ad HPne51.1.row;have l_R:=Ad Re51_R.1;obtain ⟨l_B,xB⟩:=Bv Re51_B.1
      go_upto_region 5 with fail
      have HCm:=zh (Wu HM.1 HPne51.1)
      go_upto_region 5 with fail
      go_region_law ((refine Bd (f:=281) (vals:= #[.pointer (some ⟨p,0,none⟩)]) rfl _ rfl qh (HCm.1 _ jg) ?_;rintro v u_ ⟨hn,hp,hk⟩;obtain ⟨mt,mm,ma,ml,mc,mr,mi,rfl,-,-⟩:=hn.shape;have r_R:=hk.at Re51_R.1 qk;have l_R:=Ad r_R;have r_B:=hk.at Re51_B.1 qq;have l_B:=Ad r_B;have zB_0:=Aa r_B 0;have zfB_0:=Ab r_B 0;have zB_1:=Aa r_B 1;have zfB_1:=Ab r_B 1;have zB_2:=Aa r_B 2;have zfB_2:=Ab r_B 2;have zB_3:=Aa r_B 3;have zfB_3:=Ab r_B 3;have zB_4:=Aa r_B 4;have zfB_4:=Ab r_B 4;simp at zB_0 zB_1 zB_2 zB_3 zB_4))
      all_goals
       have Ru__R:=zh (hk.at Re51_R.1 qk);have Ru__B:=zh (hk.at Re51_B.1 qq);have HKu_:=zh (HKe51.1.trans hk qg);have nu_:=zh (ne51.1.kp hk YL);have us_nu_:=Nat.le_trans us_ne51 hk.size;have HPnu_:=zh hp;have mu_:=zh hn;have o_m:w.heap.size≤e51.heap.size:=HKe51.1.size;have ns_m_p:¬(Dm e51.heap.size u_.heap.size) (p):=fun h=>Nat.not_lt_of_le h.1 (Ad HPne51.1.row)
       have ns_m_R:¬(Dm e51.heap.size u_.heap.size) (w.heap.size):=fun h=>Nat.not_lt_of_le h.1 (Ad Re51_R.1)
       have ns_m_B:¬(Dm e51.heap.size u_.heap.size) (e2.heap.size):=fun h=>Nat.not_lt_of_le h.1 (Ad Re51_B.1)
       have up_m:∀g,(Dm e51.heap.size u_.heap.size) g→g<u_.heap.size:=fun _ h=>h.2
       have dn_m:∀g,(Dm e51.heap.size u_.heap.size) g→w.heap.size≤g:=fun _ h=>Nat.le_trans o_m h.1
       clear hn hp;clear hk Re51_R Re51_B HKe51 ne51 us_ne51 HPne51 xB;have l_p:=Ad HPnu_.1.row;have l_R:=Ad Ru__R.1;have l_B:=Ad Ru__B.1
       go_wp2_with fail
       go_roundg f
       case measure=>omega
       refine Ch (fun W=>Ac [e2.heap.size] u_ W∧W.heap[e2.heap.size]? =some (.cells #[.int .i64 15,.string t.text,.float .f64 0,.slice (some ⟨u_.heap.size,0,none⟩) 2 2,.complex .f64 (Ag s t.fr).1 (Ag s t.fr).2] 50 (0,0))∧W.heap[u_.heap.size]? =some (.cells #[.int .i64 n1.kind,.string nt,.float .f64 nm,.slice na nl nc,.complex .f64 nr ni,.int .i64 m.kind,.string mt,.float .f64 mm,.slice ma ml mc,.complex .f64 mr mi] 50 (0,0))) ⟨jg,(qb Ru__B.1 l_B),(qb Ru__B.1 l_B)⟩ ?_;rintro w52 ⟨Kw52,cw52_B,cw52_G⟩;have ⟨n_p_G,n_G_p⟩:=Ai l_p;have ⟨n_R_G,n_G_R⟩:=Ai l_R;have ⟨n_B_G,n_G_B⟩:=Ai l_B;have o_G:w.heap.size≤u_.heap.size:=HKu_.1.size;have g_G:14<u_.heap.size:=Nat.lt_trans g_p l_p;have ns_n_G:¬(S) (u_.heap.size):=fun h=>Nat.not_lt_of_le (us_nu_) (up_n _ h)
       have ns_m_G:¬(Dm e51.heap.size u_.heap.size) (u_.heap.size):=fun h=>Nat.not_lt_of_le ((Nat.le_refl u_.heap.size)) (up_m _ h)
       have Rw52_R:=zh (Kw52.at Ru__R.1 (by simp [n_R_B]));have HKw52:=zh (HKu_.1.trans Kw52 (by simp [o_B]));have HPw52:=zh (HPnu_.1.keepN Kw52 (by simp [n_p_B]) (by simp [g_B]));have nw52:=zh (nu_.1.kp Kw52 (by simp [ns_n_B]));have us_nw52:=Nat.le_trans us_nu_ Kw52.size;have mw52:=zh (mu_.1.kp Kw52 (by simp [ns_m_B]));have us_mw52:=Nat.le_trans (Nat.le_refl u_.heap.size) Kw52.size;have Rw52_B:=zh cw52_B;have Rw52_G:=zh cw52_G;clear Kw52 cw52_B cw52_G l_p l_R l_B Ru__R HKu_ HPnu_ nu_ us_nu_ mu_ Ru__B
       exact ⟨.mk 15 t.text 0 [n1,m] (Ag s t.fr).1 (Ag s t.fr).2,_,t.text,0,some ⟨u_.heap.size,0,none⟩,2,2,_,_,(fun x=>S x∨(Dm e51.heap.size u_.heap.size) x∨x=u_.heap.size),w52.heap.size,HF.1,
        .mk (.some (.inr (.inr rfl)) (Ad Rw52_G.1) (row2 nw52.1 (fun _ h=> .inl h) mw52.1 (fun _ h=> .inr (.inl h)) Rw52_G.1)),
        fun x h=>h.elim (fun h=>Nat.lt_of_lt_of_le (up_n x h) us_nw52) fun h=>h.elim (fun h=>Nat.lt_of_lt_of_le (up_m x h) us_mw52) fun h=>by rw [h];exact Ad Rw52_G.1,
        Nat.le_refl _,fun x h=>h.elim (dn_n x) fun h=>h.elim (dn_m x) fun h=>by rw [h];exact o_G,
        (fun h=>h.elim ns_n_p fun h=>h.elim ns_m_p n_p_G),(fun h=>h.elim ns_n_R fun h=>h.elim ns_m_R n_R_G),(fun h=>h.elim ns_n_B fun h=>h.elim ns_m_B n_B_G),HPw52.1,HKw52.1,Rw52_R.1,Rw52_B.1⟩
theorem MC{s:ByteArray}{p:Nat}{st st':Bq}{n':Af}{rec:Zx}(hrec:∀st st' n,rec .sum st=some (n,st')→Aw s p st st' n 273)(hx:step s rec .concat st=some (n',st')):Aw s p st st' n' 270:=by
 simp only [step] at hx
 cases h1:rec .sum st with
 |none=>rw [h1] at hx;simp at hx
 | some y=>
  rw [h1] at hx;obtain ⟨n,st1⟩:=y;simp only [Option.bind_eq_bind,Option.bind_some] at hx;have hsub:=hrec _ _ _ h1;intro w h;have g_p:=h.p;have HP0:=zh h;have HK0:=zh (Ac.refl [p] w);have HS1:=zh hsub;have HRec:=zh hrec;have HG:=zh hx;clear h hsub hrec hx h1
  go_enter Tryz.func270,Tryz.ntmps270
  have l_p:=Ad HP0.1.row
  go_wp2_with fail
  refine MR ?_;rintro w1 ⟨Kw1,cw1_R⟩;have ⟨n_p_R,n_R_p⟩:=Ai l_p;have o_R:w.heap.size≤w.heap.size:=Nat.le_refl _;have g_R:14<w.heap.size:=Nat.lt_trans g_p l_p;have HKw1:=zh (HK0.1.trans Kw1 qg);have HPw1:=zh (HP0.1.keep Kw1);have Rw1_R:=zh cw1_R;clear Kw1 cw1_R l_p HK0 HP0;refine (HS1.1 _ HPw1.1).mono ?_;rintro r e2 ⟨v,rfl,hn,hp,hk⟩;have Re2_R:=zh (hk.at Rw1_R.1 qk);have HKe2:=zh (HKw1.1.trans hk qg);have HPne2:=zh hp;have ne2:=zh hn.seg;have o_n:w.heap.size≤w1.heap.size:=HKw1.1.size;have ns_n_p:¬(Dm w1.heap.size e2.heap.size) (p):=fun h=>Nat.not_lt_of_le h.1 (Ad HPw1.1.row)
  have ns_n_R:¬(Dm w1.heap.size e2.heap.size) (w.heap.size):=fun h=>Nat.not_lt_of_le h.1 (Ad Rw1_R.1)
  have up_n:∀g,(Dm w1.heap.size e2.heap.size) g→g<e2.heap.size:=fun _ h=>h.2
  have dn_n:∀g,(Dm w1.heap.size e2.heap.size) g→w.heap.size≤g:=fun _ h=>Nat.le_trans o_n h.1
  obtain ⟨nt,nm,na,nl,nc,nr,ni,rfl,-,-⟩:=hn.shape;clear hn hp;clear hk Rw1_R HKw1 HPw1;have l_p:=Ad HPne2.1.row;have l_R:=Ad Re2_R.1
  go_wp2_with fail
  refine qrb ?_;rintro w3 ⟨Kw3,cw3_B⟩;have ⟨n_p_B,n_B_p⟩:=Ai l_p;have ⟨n_R_B,n_B_R⟩:=Ai l_R;have o_B:w.heap.size≤e2.heap.size:=HKe2.1.size;have g_B:14<e2.heap.size:=Nat.lt_trans g_p l_p;have ns_n_B:¬(Dm w1.heap.size e2.heap.size) (e2.heap.size):=fun h=>Nat.not_lt_of_le ((Nat.le_refl e2.heap.size)) (up_n _ h)
  have Rw3_R:=zh (Kw3.at Re2_R.1 qg);have HKw3:=zh (HKe2.1.trans Kw3 qg);have HPw3:=zh (HPne2.1.keep Kw3);have nw3:=zh (ne2.1.kp Kw3 qg);have us_nw3:=Nat.le_trans (Nat.le_refl e2.heap.size) Kw3.size;have Rw3_B:=zh cw3_B;clear Kw3 cw3_B l_p l_R Re2_R HKe2 HPne2 ne2
  go_loopg [] 50 (fun g wr=>WI s p w.heap.size e2.heap.size w (fun g n st=>Uv s rec g n st=some (n',st')) g wr)
  case atStart=>exact zsb
  clear HG;obtain ⟨n1,st1,nt,nm,na,nl,nc,nr,ni,S,U,hG,hn,up_n,us_n,dn_n,ns_n_p,ns_n_R,ns_n_B,hp,hk,hR,hB⟩:=hrel;have HN1:=zh hn;have HPr:=zh hp;have HKr:=zh hk;have RR:=zh hR;have RB:=zh hB;clear hn hp hk hR hB
  cases gk with
  |zero=>simp [Uv] at hG
  | succ f=>
   rw [Uv] at hG
   cases ho:JA s st1 with
   |none=>rw [ho] at hG;simp at hG
   | some b=>
    rw [ho] at hG;simp only [Option.bind_eq_bind,Option.bind_some] at hG
    cases b with
    |false=>
     simp only [Option.some.injEq,Prod.mk.injEq,Bool.false_eq_true,if_false] at hG;obtain ⟨rfl,rfl⟩:=hG;have HT:=zh ho;clear ho;have l_p:=Ad HPr.1.row;have l_R:=Ad RR.1;have l_B:=Ad RB.1
     go_wp2_with fail
     clear l_p l_R l_B;refine (PO HPr.1 HT.1).mono ?_;exact qud
    |true=>
     simp at hG
inductive De {α:Type} (E:α→List Value→Prop):List α→List Value→Prop
 |nil:De E [] []
 |cons {a:α} {c:List Value} {l:List α} {xs:List Value} (h:E a c) (t:De E l xs):De E (a::l) (c++xs)
theorem De.mono{α:Type}{E E':α→List Value→Prop}(h:∀a c,E a c→E' a c){l:List α}{xs:List Value}(t:De E l xs):De E' l xs:=by
 induction t with
 |nil=>exact .nil
 |cons h1 _ ih=>exact .cons (h _ _ h1) ih
theorem De.snoc{α:Type}{E:α→List Value→Prop}{l:List α}{xs:List Value}{a:α}{c:List Value}(t:De E l xs)(h:E a c):De E (l++ [a]) (xs++c):=by
 induction t with
 |nil=>simpa using De.cons h .nil
 |cons h1 _ ih=>simpa using De.cons h1 ih
theorem De.len{α:Type}{E:α→List Value→Prop}{k:Nat}(h:∀a c,E a c→c.length=k){l:List α}{xs:List Value}(t:De E l xs):xs.length=l.length*k:=by
 induction t with
 |nil=>simp
 |cons h1 _ ih=>simp [h _ _ h1,ih,Nat.add_mul,Nat.add_comm]
structure Ho {α:Type} (E:World→(Nat→Prop)→α→List Value→Prop) (size:Nat):Prop where
 keep:∀{w w':World} {S S':Nat→Prop} {fp:List Nat} {a:α} {c:List Value},E w S a c→Ac fp w w'→(∀x∈fp,¬S x)→(∀x,S x→S' x)→E w' S' a c
 len:∀{w:World} {S:Nat→Prop} {a:α} {c:List Value},E w S a c→c.length=size
 one:∀{w:World} {S:Nat→Prop} {a:α} {c:List Value},E w S a c→∀u∈c,u.oneCell'=true
def Ax{α:Type}(E:World→(Nat→Prop)→α→List Value→Prop)(e:TypeId)(size:Nat)(w:World)(b:Nat)(T:Nat→Prop)(l:List α)(v:Value):Prop:=
 ∃xs,w.ownsRow b e size v l.length xs∧(∀g,v.ownBlock=some g→T g)∧De (E w (fun g=>T g∧v.ownBlock≠some g)) l xs
section
variable {α:Type} {E:World→(Nat→Prop)→α→List Value→Prop} {e:TypeId} {size:Nat}
theorem Ax.nil{w:World}{b:Nat}{T:Nat→Prop}:Ax E e size w b T [] (.slice none 0 0):=⟨[],World.ownsRow_nil _ _ _ _,fun _ h=>by simp [Value.ownBlock] at h,.nil⟩
theorem Ax.kp(hE:Ho E size){w w':World}{b:Nat}{T:Nat→Prop}{fp:List Nat}{l:List α}{v:Value}(h:Ax E e size w b T l v)(hk:Ac fp w w')(hf:∀x∈fp,¬T x):Ax E e size w' b T l v:=by
 obtain ⟨xs,ho,ht,hx⟩:=h;refine ⟨xs,Ge ho fun g hg=> ?_,ht,hx.mono fun a c h=>hE.keep h hk (fun x hx hs=>hf x hx hs.1) fun _ h=>h⟩;obtain ⟨cur,hc⟩:=Sh ho hg;exact hk.block g (Ad hc) fun hm=>hf g hm (ht g hg)
theorem Ax.to(hE:Ho E size){w:World}{b:Nat}{T T':Nat→Prop}{l:List α}{v:Value}(h:Ax E e size w b T l v)(hT:∀x,T x→T' x):Ax E e size w b T' l v:=by
 obtain ⟨xs,ho,ht,hx⟩:=h;exact ⟨xs,ho,fun g hg=>hT g (ht g hg),hx.mono fun a c h=>hE.keep h (Ac.refl [] w) qg fun x hx=>⟨hT x hx.1,hx.2⟩⟩
theorem Ax.base{w:World}{b b':Nat}{T:Nat→Prop}{l:List α}{v:Value}(h:Ax E e size w b T l v)(hb:b'≤b):Ax E e size w b' T l v:=by
 obtain ⟨xs,ho,ht,hx⟩:=h;exact ⟨xs,NU ho hb,ht,hx⟩
theorem Ax.slice{w:World}{b:Nat}{T:Nat→Prop}{l:List α}{v:Value}(h:Ax E e size w b T l v):∃a cap,v= .slice a l.length cap∧(∀x,a=some x→∃g,x=⟨g,0,none⟩∧T g∧g<w.heap.size):=by
 obtain ⟨xs,ho,ht,hx⟩:=h
 rcases ho.2 with ⟨rfl,hn⟩|⟨g,cap,cur,rfl,hb,hg,_⟩
 ·exact ⟨none,0,by rw [hn],fun _ h=>by cases h⟩
 exact ⟨_,cap,rfl,fun x hx=>⟨g,by simpa using hx.symm,ht g rfl,Ad hg⟩⟩
theorem Ax.one(hE:Ho E size){w:World}{b:Nat}{T S:Nat→Prop}{x:α}{c:List Value}{G:Nat}(hG:w.heap[G]? =some (.cells c.toArray e (0,0)))(hb:b≤G)(hT:T G)(hx:E w S x c)(hS:∀g,S g→T g∧g≠G):Ax E e size w b T [x] (.slice (some ⟨G,0,none⟩) 1 1):=by
 have hl:=hE.len hx;refine ⟨c,⟨by simp [hl],.inr ⟨G,1,c.toArray,rfl,hb,hG,Nat.le_refl _,by simp [maxLen],by simp [hl], ?_⟩⟩,fun g hg=> ?_, ?_⟩
 ·rw [List.take_of_length_le (by simp [hl])]
 ·simp [Value.ownBlock] at hg;rw [←hg];exact hT
 simpa using De.cons (hE.keep hx (Ac.refl [] w) qg fun g hg=>⟨(hS g hg).1,fun h=>(hS g hg).2 (by simpa [Value.ownBlock] using h.symm)⟩) .nil
theorem Sg(hE:Ho E size){w w1:World}{b g cap:Nat}{T S:Nat→Prop}{l:List α}{x:α}{v:Value}{c xs:List Value}(ho:w.ownsRow b e size v l.length xs)(ht:∀g,v.ownBlock=some g→T g)(hx:De (E w (fun g=>T g∧v.ownBlock≠some g)) l xs)(hm:E w S x c)(hd:∀g,S g→¬T g)(hS:∀g,S g→g<w.heap.size)(hT:∀g,T g→g<w.heap.size)(hown:w1.ownsRow b e size (.slice (some ⟨g,0,none⟩) (l.length+1) cap) (l.length+1) (xs++c))(hgr:w.grownBy w1 v.ownBlock)(hat:v.ownBlock=some g∨g=w.heap.size)(hlt:g<w1.heap.size):Ax E e size w1 b (fun k=>T k∨S k∨(w.heap.size≤k∧k<w1.heap.size)) (l++ [x]) (.slice (some ⟨g,0,none⟩) (l.length+1) cap)∧∃fl:List Nat,(∀y∈fl,T y)∧Ac fl w w1:=by
 have hfl:∀y∈v.ownBlock.toList,T y:=fun y hy=>ht y (by simpa using hy)
 have hk:Ac v.ownBlock.toList w w1:=Ac.grown hgr fun k hk=> .inl (by simp [hk])
 refine ⟨⟨xs++c,by simpa using hown,fun k hk=> ?_, ?_⟩,_,hfl,hk⟩
 ·simp [Value.ownBlock] at hk;subst hk
  rcases hat with h|h
  ·exact .inl (ht _ h)
  exact .inr (.inr ⟨Nat.le_of_eq h.symm,hlt⟩)
 have h1:De (E w1 (fun k=>(T k∨S k∨(w.heap.size≤k∧k<w1.heap.size))∧(Value.slice (some ⟨g,0,none⟩) (l.length+1) cap).ownBlock≠some k)) l xs:=
  hx.mono fun a c h=>hE.keep h hk (fun y hy hs=>hs.2 (by simpa using hy)) fun k hs=>⟨.inl hs.1,fun e1=>by
   simp [Value.ownBlock] at e1;subst e1
   rcases hat with h|h
   · exact hs.2 h
   · exact Nat.lt_irrefl _ (h▸hT _ hs.1)⟩
 refine h1.snoc (hE.keep hm hk (fun y hy hs=>hd y hs (hfl y hy)) fun k hs=>⟨.inr (.inl hs),fun e1=> ?_⟩);simp [Value.ownBlock] at e1;subst e1
 rcases hat with h|h
 ·exact hd _ hs (ht _ h)
 exact Nat.lt_irrefl _ (h▸hS _ hs)
theorem Ig{P:Program}(hE:Ho E size){ops:Array Oper}{rest:List Oper}{o:Oper}{a:Act}{w:World}{Q:Exit→Act→World→Prop}(hgd:o.guard=none)(s y:Operand)(t:TypeId)(ho:o.op= .call {callee:= .builtin .append,args:= #[s,y],argTypes:= #[t,t]}){i:TypeInfo}{z:Value}{bytes:Nat}(hu:P.underlying t=some (.slice e))(hi:P.info? e=some i)(hz:i.zero=some z)(hsize:i.size=size)(hby:i.bytes=bytes)(hzs:z.cells.size=size)(hsz:0<size)(hbb:bytes≤1000){b G cap:Nat}{T S:Nat→Prop}{l:List α}{x:α}{v:Value}{c:List Value}(hs:a.eval s=v)(hy:a.eval y= .slice (some ⟨G,0,none⟩) 1 cap)(hO:Ax E e size w b T l v)(hG:w.heap[G]? =some (.cells c.toArray e (0,0)))(hm:E w S x c)(hd:∀g,S g→¬T g)(hS:∀g,S g→g<w.heap.size)(hT:∀g,T g→g<w.heap.size)(hb:b≤w.heap.size)(hl:l.length≤400000)(h:∀v' w' fl,(∀x∈fl,T x)→Ac fl w w'→Ax E e size w' b (fun g=>T g∨S g∨(w.heap.size≤g∧g<w'.heap.size)) (l++ [x]) v'→wpList P ops Q rest (a.put o.dst v') w'):wpList P ops Q (o::rest) a w:=by
 obtain ⟨xs,hown,ht,hx⟩:=hO;have hlen:=hE.len hm;refine wpList_append_lies w hgd s y t ho b e i z size bytes hu hi hz hsize hby hzs hsz v l.length xs hs hown ⟨G,0,none⟩ 1 cap c hy (by simp [hlen]) (fun j u hj=> ?_) (hE.one hm) jh zw ?_ hb _ rfl fun g cp w1 h1 h2 h3 h4=> ?_
 ·have:=Aa hG j;exact YJ
 ·exact jsb
 obtain ⟨q1,fl,q2,q3⟩:=Sg hE hown ht hx hm hd hS hT h1 h2 h3 h4;exact h _ _ fl q2 q3 q1
end
/-! ### nodes as elements -/
def Kt(w:World)(S:Nat→Prop)(n:Af)(c:List Value):Prop:=c.length=5∧Au w S n (.agg c.toArray)
theorem Dr:Ho Kt 5:={
 keep:=fun h hk hf hS=>⟨h.1,h.2.keep hk hf hS⟩
 len:=fun h=>h.1
 one:=fun {w S a c} h u hu=>by
  obtain ⟨tx,nm,k,l,cap,re,im,hv,-,-⟩:=h.2.shape;have hc:c= [.int .i64 a.kind,.string tx,.float .f64 nm,.slice k l cap,.complex .f64 re im]:=by simpa using hv
  subst hc;simp at hu
  rcases hu with rfl|rfl|rfl|rfl|rfl<;>rfl
 }
theorem LW{w:World}{S:Nat→Prop}{g:Nat}{ns:List Af}{xs:List Value}(h:De (Kt w S) ns xs):∀o,(∀j u,xs[j]? =some u→w.cell? ⟨g,o+j,none⟩=some u)→Hx w S g o ns:=by
 induction h with
 |nil=>intro o _;exact .nil
 | cons hn _ ih=>
  intro o hc;obtain ⟨h5,hr⟩:=hn;rename_i c ns xs _
  obtain ⟨c0,c1,c2,c3,c4,rfl⟩:∃c0 c1 c2 c3 c4,c= [c0,c1,c2,c3,c4]:=by
   match c,h5 with
   | [c0,c1,c2,c3,c4],_=>exact ⟨_,_,_,_,_,rfl⟩
  refine .cons hr (by simpa using hc 0 c0 rfl) (hc 1 c1 rfl) (hc 2 c2 rfl) (hc 3 c3 rfl) (hc 4 c4 rfl) (ih _ fun j u hj=> ?_);have:=hc (5+j) u (by rw [List.getElem?_append_right qg];simpa using hj)
  rwa [←Nat.add_assoc] at this
theorem Im{w:World}{b:Nat}{T:Nat→Prop}{ns:List Af}{v:Value}(h:Ax Kt 50 5 w b T ns v):Bc w T ns v:=by
 obtain ⟨xs,ho,ht,hx⟩:=h
 rcases ho.2 with ⟨rfl,hn⟩|⟨g,cap,cur,rfl,hb,hg,h1,h2,h3,h4⟩
 ·cases ns with
  |nil=>exact .nil
  |cons n ns=>simp at hn
 cases ns with
 |nil=>exact .nil
 |cons n ns=>
  refine .some (ht g rfl) (Ad hg) (LW (hx.mono fun a c h=>Dr.keep h (Ac.refl [] w) qg fun _ h=>h.1) 0 fun j u hj=> ?_);rw [Aa hg,←h4] at*
  rw [Nat.zero_add];have hj2:(cur.toList.take ((n::ns).length*5))[j]? =some u:=hj;exact WU
theorem Wo:∃i,Tryz.prog.info? 50=some i∧i.zero=some (.agg #[.int .i64 0,.string ⟨#[]⟩,.float .f64 0,.slice none 0 0,.complex .f64 0 0])∧i.size=5∧i.bytes=72:=by
 have h:(Tryz.prog.info? 50).map (fun i=>(i.zero,i.size,i.bytes))=some (some (.agg #[.int .i64 0,.string ⟨#[]⟩,.float .f64 0,.slice none 0 0,.complex .f64 0 0]),5,72):=by kernel_rfl
 cases hi:Tryz.prog.info? 50 with
 |none=>rw [hi] at h;cases h
 |some i=>rw [hi] at h;simp at h;exact ⟨i,rfl,h.1,h.2.1,h.2.2⟩
theorem RD{ops:Array Oper}{rest:List Oper}{o:Oper}{a:Act}{w:World}{Q:Exit→Act→World→Prop}(hgd:o.guard=none)(s y:Operand)(ho:o.op= .call {callee:= .builtin .append,args:= #[s,y],argTypes:= #[47,47]}){b G cap:Nat}{T S:Nat→Prop}{l:List Af}{x:Af}{v c0 c1 c2 c3 c4:Value}(hs:a.eval s=v)(hy:a.eval y= .slice (some ⟨G,0,none⟩) 1 cap)(hO:Ax Kt 50 5 w b T l v)(hG:w.heap[G]? =some (.cells #[c0,c1,c2,c3,c4] 50 (0,0)))(hm:Au w S x (.agg #[c0,c1,c2,c3,c4]))(hd:∀g,S g→¬T g)(hS:∀g,S g→g<w.heap.size)(hT:∀g,T g→g<w.heap.size)(hb:b≤w.heap.size)(hl:l.length≤400000)(h:∀v' w' fl,(∀x∈fl,T x)→Ac fl w w'→Ax Kt 50 5 w' b (fun g=>T g∨S g∨(w.heap.size≤g∧g<w'.heap.size)) (l++ [x]) v'→wpList Tryz.prog ops Q rest (a.put o.dst v') w'):wpList Tryz.prog ops Q (o::rest) a w:=by
 obtain ⟨i,hi,hz,hsz,hby⟩:=Wo;exact Ig Dr hgd s y 47 ho Tryz.underlying47 hi hz hsz hby rfl zi zi hs hy hO (c:= [c0,c1,c2,c3,c4]) hG ⟨rfl,hm⟩ hd hS hT hb hl h
end Go.Proofs.YtkfillfkbhbbjaaGreatDoor
