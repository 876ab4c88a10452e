/- LevelsJ, LevelsK, LevelsL, LevelsM, LevelsN, LevelsO, LevelsP. -/
import Derived.Test.YtkfillfkbhbbjaaGreatDoorOwn
set_option maxRecDepth 100000
set_option maxHeartbeats 4000000
set_option linter.unusedSimpArgs false
set_option linter.unusedVariables false
namespace Go.Proofs.YtkfillfkbhbbjaaGreatDoor
open Go.RowKit
def Aah(s:ByteArray)(p:Nat)(w:World)(rec:Zx)(l':List Af)(st':Bq)(g:Nat)(v:Value)(wr:World):Prop:=
 ∃(l:List Af) (st:Bq) (T:Nat→Prop) (U:Nat),Zc s rec g l st=some (l',st')∧l.length+g≤60∧Ax Kt 50 5 wr w.heap.size T l v∧
  (∀x,T x→x<U)∧U≤wr.heap.size∧(∀x,T x→w.heap.size≤x)∧¬T p∧PP s p st wr∧Ac [p] w wr
theorem Oh{s:ByteArray}{p:Nat}{st:Bq}{w:World}(h:PP s p st w){x:ByteArray}{b:Bool}(hx:AW s st x=some b):Calls Tryz.prog 64 #[.pointer (some ⟨p,0,none⟩),.string x] w fun r w'=>r= .returned (.bool b)∧Ac [] w w':=by
 unfold AW at hx
 cases ht:Be s st.pos false with
 |none=>rw [ht] at hx;simp at hx
 |some t=>
  rw [ht] at hx;simp only [Option.bind_eq_bind,Option.bind_some,Option.some.injEq] at hx;subst hx;exact Ky h ht x
theorem FY{s:ByteArray}{p:Nat}{pos:Nat}{opn:Int}{st1 st2:Bq}{n:Af}{l':List Af}{rec:Zx}{top:Bool}(hrec:∀st st' n,rec .expr st=some (n,st')→Aw s p st st' n 109)(h1:rec .expr ⟨pos,opn,false⟩=some (n,st1))(hm:Zc s rec 50 [n] st1=some (l',st2))(w:World)(h:PP s p ⟨pos,opn,false⟩ w):Calls Tryz.prog 224 #[.pointer (some ⟨p,0,none⟩),.bool top] w fun r w'=>∃v,r= .returned v∧Bc w' (fun g=>w.heap.size≤g) l' v∧PP s p ⟨st2.pos,st2.opn,false⟩ w'∧Ac [p] w w':=by
 have hsub:=hrec _ _ _ h1;have g_p:=h.p;have g_0:14<w.heap.size:=Nat.lt_trans g_p (Ad h.row);have HP0:=zh h;have HK0:=zh (Ac.refl [p] w);have HS1:=zh hsub;have HRec:=zh hrec;have HG:=zh hm;clear h hsub hrec hm h1
 go_enter Tryz.func224,Tryz.ntmps224
 obtain ⟨l_p,xp⟩:=JO HP0.1.row
 go_wp2_with fail
 refine An (fun W=>Ac [p] w W∧W.heap[p]? =some (.cells #[.string s,.int .i64 pos,.int .i64 opn,.bool false,.int .i64 0,.complex .f64 0 0] 87 (0,0))) ⟨jg,(zc HP0.1.row l_p)⟩ ?_;rintro w1 ⟨Kw1,cw1_p⟩;have HKw1:=zh (HK0.1.trans Kw1 qg);have HPw1:Hd (PP s p ⟨pos,opn,false⟩ w1):=zh (HP0.1.upd Kw1 YV cw1_p HP0.1.le HP0.1.ob);clear Kw1 cw1_p l_p xp HK0 HP0;refine (HS1.1 _ HPw1.1).mono ?_;rintro r e2 ⟨v,rfl,hn,hp,hk⟩;have HKe2:=zh (HKw1.1.trans hk qg);have HPne2:=zh hp;have ne2:=zh hn.seg;have o_n:w.heap.size≤w1.heap.size:=HKw1.1.size;have ns_n_p:¬(Dm w1.heap.size e2.heap.size) (p):=fun h=>Nat.not_lt_of_le h.1 (Ad HPw1.1.row)
 have up_n:∀g,(Dm w1.heap.size e2.heap.size) g→g<e2.heap.size:=fun _ h=>h.2
 have dn_n:∀g,(Dm w1.heap.size e2.heap.size) g→w.heap.size≤g:=fun _ h=>Nat.le_trans o_n h.1
 obtain ⟨nt,nm,na,nl,nc,nr,ni,rfl,-,-⟩:=hn.shape;clear hn hp;clear hk HKw1 HPw1;have l_p:=Ad HPne2.1.row
 go_wp2_with fail
 refine qrb ?_;rintro w3 ⟨Kw3,cw3_G⟩;have ⟨n_p_G,n_G_p⟩:=Ai l_p;have o_G:w.heap.size≤e2.heap.size:=HKe2.1.size;have g_G:14<e2.heap.size:=Nat.lt_trans g_p l_p;have ns_n_G:¬(Dm w1.heap.size e2.heap.size) (e2.heap.size):=fun h=>Nat.not_lt_of_le ((Nat.le_refl e2.heap.size)) (up_n _ h)
 have HKw3:=zh (HKe2.1.trans Kw3 qg);have HPw3:=zh (HPne2.1.keep Kw3);have nw3:=zh (ne2.1.kp Kw3 qg);have us_nw3:=Nat.le_trans (Nat.le_refl e2.heap.size) Kw3.size;have Rw3_G:=zh cw3_G;clear Kw3 cw3_G l_p HKe2 HPne2 ne2;have hE1:Ax Kt 50 5 w3 w.heap.size (fun x=>(Dm w1.heap.size e2.heap.size) x∨x=e2.heap.size) [n] (.slice (some ⟨e2.heap.size,0,none⟩) 1 1):=Ax.one Dr (c:= [.int .i64 n.kind,.string nt,.float .f64 nm,.slice na nl nc,.complex .f64 nr ni]) Rw3_G.1 o_G (.inr rfl) ⟨rfl,nw3.1⟩ fun g hg=>⟨.inl hg,fun h=>ns_n_G (h▸hg)⟩
 have HE1:=zh hE1;clear hE1
 go_loopg [6] 50 (fun g v wr=>Aah s p w rec l' st2 g v wr)
 case atStart=>exact ⟨[n],st1,_,w3.heap.size,HG.1,by simp,HE1.1,fun x h=>h.elim (fun h=>Nat.lt_of_lt_of_le (up_n x h) us_nw3) fun h=>by rw [h];exact Ad Rw3_G.1,Nat.le_refl _,fun x h=>h.elim (dn_n x) fun h=>by rw [h];exact o_G,fun h=>h.elim ns_n_p n_p_G,HPw3.1,HKw3.1⟩
 clear HG HE1;obtain ⟨l,st1,T,U,hG,hlen,hl,up_l,us_l,dn_l,ns_l_p,hp,hk⟩:=hrel;have HL1:=zh hl;have HPr:=zh hp;have HKr:=zh hk;clear hl hp hk
 cases gk with
 |zero=>simp [Zc] at hG
 | succ f=>
  rw [Zc] at hG
  cases ho:He s st1 (bs [44]) with
  |none=>rw [ho] at hG;simp at hG
  | some y=>
   obtain ⟨b,st2a⟩:=y;rw [ho] at hG;simp only [Option.bind_eq_bind,Option.bind_some] at hG;have HX:Hd (He s st1 ⟨#[44]⟩=some (b,st2a)):=zh ho;clear ho
   cases b with
   |false=>
    simp only [Option.some.injEq,Prod.mk.injEq,Bool.false_eq_true,if_false] at hG;obtain ⟨rfl,rfl⟩:=hG;have l_p:=Ad HPr.1.row
    go_wp2_with fail
    clear l_p;refine (Eh HPr.1).mono ?_;rintro r w' ⟨rfl,hw'⟩;rw [hw'];clear hw';have l_p:=Ad HPr.1.row
    go_wp2_with fail
    clear l_p;refine (Bt HPr.1 HX.1).mono ?_;rintro r e51 ⟨rfl,hp,hk⟩;have HKe51:=zh (HKr.1.trans hk qg);have le51:=zh (Ax.kp Dr HL1.1 hk ZY);have us_le51:=Nat.le_trans us_l hk.size;have HPne51:=zh hp;clear hp;clear hk HKr HL1 us_l HPr;obtain ⟨l_p,xp⟩:=JO HPne51.1.row
    go_wp2_with fail
    refine Ap (v:=u6) (fun W=>Ac [p] e51 W∧W.heap[p]? =some (.cells #[.string s,.int .i64 st2a.pos,.int .i64 st2a.opn,.bool false,.int .i64 0,.complex .f64 0 0] 87 (0,0))) ⟨jg,(zc HPne51.1.row l_p)⟩ (fun w52 hW=> ?_) rfl (fun w52 hW=> ?_)
    ·obtain ⟨Kw52,cw52_p⟩:=hW;exact Le
    obtain ⟨Kw52,cw52_p⟩:=hW;have HKw52:=zh (HKe51.1.trans Kw52 qg);have HPw52:Hd (PP s p ⟨st2a.pos,st2a.opn,false⟩ w52):=zh (HPne51.1.upd Kw52 YV cw52_p HPne51.1.le HPne51.1.ob);have lw52:=zh (Ax.kp Dr le51.1 Kw52 ZY);have us_lw52:=Nat.le_trans us_le51 Kw52.size;clear Kw52 cw52_p l_p xp HKe51 HPne51 le51 us_le51;exact ⟨_,rfl,(Im lw52.1).to dn_l,HPw52.1,HKw52.1⟩
   |true=>
    simp at hG
def EU(s:ByteArray)(p:Nat)(st st':Bq)(l:List Af)(f:FuncId)(args:List Value):Prop:=
 ∀w,PP s p st w→Calls Tryz.prog f (.pointer (some ⟨p,0,none⟩)::args).toArray w fun r w'=>∃v,r= .returned v∧Bc w' (fun g=>w.heap.size≤g) l v∧PP s p st' w'∧Ac [p] w w'
theorem OY{s:ByteArray}{p:Nat}{st st':Bq}{l:List Af}{rec:Zx}{top:Bool}(hrec:∀st st' n,rec .expr st=some (n,st')→Aw s p st st' n 109)(hx:OZ s rec top st=some (l,st')):EU s p st st' l 224 [.bool top]:=by
 intro w h;obtain ⟨pos,opn,ng⟩:=st;simp only [OZ] at hx
 cases ng
 rotate_left
 ·cases hx
 simp only [Bool.false_eq_true,if_false,Bool.false_and] at hx
 cases h1:rec .expr ⟨pos,opn,false⟩ with
 |none=>rw [h1] at hx;simp at hx
 | some y=>
  rw [h1] at hx;obtain ⟨n,st1⟩:=y;simp only [Option.bind_eq_bind,Option.bind_some] at hx
  cases h2:Zc s rec 50 [n] st1 with
  |none=>rw [h2] at hx;simp at hx
  |some y=>
   rw [h2] at hx;obtain ⟨l2,st2⟩:=y;simp only [Option.bind_some,Option.some.injEq,Prod.mk.injEq] at hx;obtain ⟨rfl,rfl⟩:=hx;exact FY hrec h1 h2 w h
theorem GB{s:ByteArray}{p:Nat}{st st1 st2:Bq}{l:List Af}{x:ByteArray}(hl:EU s p st st1 l 224 [.bool false])(hw:Ti s st1 x=some st2):EU s p st st2 l 189 [.string x]:=by
 intro w h;have g_p:=h.p;have HP0:=zh h;have HK0:=zh (Ac.refl [p] w);have HS1:=zh hl;have HX:=zh hw;clear h hl hw
 go_enter Tryz.func189,Tryz.ntmps189
 have l_p:=Ad HP0.1.row
 go_wp2_with fail
 clear l_p;refine (HS1.1 _ HP0.1).mono ?_;rintro r e1 ⟨v,rfl,hn,hp,hk⟩;have HKe1:=zh (HK0.1.trans hk qg);have HPne1:=zh hp;have le1:=zh hn.seg;have o_l:w.heap.size≤w.heap.size:=Nat.le_refl _;have ns_l_p:¬(Dm w.heap.size e1.heap.size) (p):=fun h=>Nat.not_lt_of_le h.1 (Ad HP0.1.row)
 have up_l:∀g,(Dm w.heap.size e1.heap.size) g→g<e1.heap.size:=fun _ h=>h.2
 have dn_l:∀g,(Dm w.heap.size e1.heap.size) g→w.heap.size≤g:=fun _ h=>Nat.le_trans o_l h.1
 obtain ⟨la,ll,lc,rfl⟩:=hn.slice;clear hn hp;clear hk HK0 HP0;have l_p:=Ad HPne1.1.row
 go_wp2_with fail
 clear l_p;refine (Uz HPne1.1 HX.1).mono ?_;rintro r e2 ⟨rfl,hp,hk⟩;have HKe2:=zh (HKe1.1.trans hk qg);have le2:=zh (le1.1.kp hk ZY);have us_le2:=Nat.le_trans (Nat.le_refl e1.heap.size) hk.size;have HPne2:=zh hp;clear hp;clear hk HKe1 le1 HPne1;have l_p:=Ad HPne2.1.row
 go_wp2_with fail
 refine Ap (v:= .slice la ll lc) (fun W=>Ac [] e2 W) jg (fun w3 hW=> ?_) rfl (fun w3 hW=> ?_)
 ·have Kw3:Ac [] e2 w3:=hW;exact Le
 have Kw3:Ac [] e2 w3:=hW;have HKw3:=zh (HKe2.1.trans Kw3 qg);have HPw3:=zh (HPne2.1.keep Kw3);have lw3:=zh (le2.1.kp Kw3 qg);have us_lw3:=Nat.le_trans us_le2 Kw3.size;clear Kw3 l_p HKe2 HPne2 le2 us_le2;exact ⟨_,rfl,lw3.1.to dn_l,HPw3.1,HKw3.1⟩
theorem CU{s:ByteArray}{p:Nat}{st:Bq}{tx:ByteArray}{nm fr te:Nat}(ht:Be s st.pos true=some ⟨2,tx,nm,fr,te⟩)  :Aw s p st ⟨te,st.opn,st.ng⟩ (.mk 1 ⟨#[]⟩ nm [] (Ag s fr).1 (Ag s fr).2) 294:=by
 intro w h;have g_p:=h.p;obtain ⟨le1,le2,-⟩:=Eo ht h.le;simp only at le1 le2;have le3:=Nat.le_trans le1 le2;have HP0:=zh h;have HK0:=zh (Ac.refl [p] w);have HT:=zh ht;clear h ht le1
 go_enter Tryz.func294,Tryz.ntmps294
 have l_p:=Ad HP0.1.row
 go_wp2_with fail
 refine MR ?_;rintro w1 ⟨Kw1,cw1_R⟩;have ⟨n_p_R,n_R_p⟩:=Ai l_p;have o_R:w.heap.size≤w.heap.size:=Nat.le_refl _;have g_R:14<w.heap.size:=Nat.lt_trans g_p l_p;have HKw1:=zh (HK0.1.trans Kw1 qg);have HPw1:=zh (HP0.1.keep Kw1);have Rw1_R:=zh cw1_R;clear Kw1 cw1_R l_p HK0 HP0;refine (Kl HPw1.1 HT.1).mono ?_;rintro r e2 ⟨rfl,hk⟩;have Re2_R:=zh (hk.at Rw1_R.1 qg);have HKe2:=zh (HKw1.1.trans hk qg);have HPe2:=zh (HPw1.1.keep hk);clear hk Rw1_R HKw1 HPw1;have l_p:=Ad HPe2.1.row;have l_R:=Ad Re2_R.1
 go_wp2_with fail
 refine An (fun W=>Ac [] e2 W∧W.heap[e2.heap.size]? =some (.cells #[.int .i64 2,.string tx,.float .f64 nm,.int .i64 fr,.int .i64 te] 90 (0,0))) ⟨jg,jb⟩ ?_;rintro w3 ⟨Kw3,cw3_T⟩;have ⟨n_p_T,n_T_p⟩:=Ai l_p;have ⟨n_R_T,n_T_R⟩:=Ai l_R;have o_T:w.heap.size≤e2.heap.size:=HKe2.1.size;have g_T:14<e2.heap.size:=Nat.lt_trans g_p l_p;have Rw3_R:=zh (Kw3.at Re2_R.1 qg);have HKw3:=zh (HKe2.1.trans Kw3 qg);have HPw3:=zh (HPe2.1.keep Kw3);have Rw3_T:=zh cw3_T;clear Kw3 cw3_T l_p l_R Re2_R HKe2 HPe2;refine (Eh HPw3.1).mono ?_;rintro r w' ⟨rfl,hw'⟩;rw [hw'];clear hw';have l_p:=Ad HPw3.1.row;have l_R:=Ad Rw3_R.1;obtain ⟨l_T,xT⟩:=Bv Rw3_T.1
 go_wp2_with fail
 clear l_p l_R l_T xT;refine (Ji HPw3.1 ⟨2,tx,nm,fr,te⟩ le3).mono ?_;rintro r e4 ⟨rfl,hk⟩;have Re4_R:=zh (hk.at Rw3_R.1 qg);have Re4_T:=zh (hk.at Rw3_T.1 qg);have HKe4:=zh (HKw3.1.trans hk qg);have HPe4:=zh (HPw3.1.keep hk);clear hk Rw3_R Rw3_T HKw3 HPw3;obtain ⟨l_p,xp⟩:=JO HPe4.1.row;obtain ⟨l_R,xR⟩:=Bv Re4_R.1;obtain ⟨l_T,xT⟩:=Bv Re4_T.1
 go_wp2_with fail
 refine Ap (v:= .agg #[.int .i64 1,.string ⟨#[]⟩,.float .f64 nm,.slice none 0 0,.complex .f64 (Ag s fr).1 (Ag s fr).2]) (fun W=>Ac [p,w.heap.size] e4 W∧W.heap[p]? =some (.cells #[.string s,.int .i64 te,.int .i64 st.opn,.bool st.ng,.int .i64 0,.complex .f64 0 0] 87 (0,0))∧W.heap[w.heap.size]? =some (.cells #[.int .i64 1,.string ⟨#[]⟩,.float .f64 nm,.slice none 0 0,.complex .f64 (Ag s fr).1 (Ag s fr).2] 50 (0,0))) ⟨jg,(jc HPe4.1.row Re4_R.1 n_p_R n_R_p l_p l_R),(jc HPe4.1.row Re4_R.1 n_p_R n_R_p l_p l_R)⟩ (fun w5 hW=> ?_) rfl (fun w5 hW=> ?_)
 ·obtain ⟨Kw5,cw5_p,cw5_R⟩:=hW;have q0:=Aa cw5_R 0;have q1:=Aa cw5_R 1;have q2:=Aa cw5_R 2;have q3:=Aa cw5_R 3;have q4:=Aa cw5_R 4;simp at q0 q1 q2 q3 q4;exact UK
 obtain ⟨Kw5,cw5_p,cw5_R⟩:=hW;have Rw5_T:=zh (Kw5.at Re4_T.1 (by simp [n_T_p,n_T_R]));have HKw5:=zh (HKe4.1.trans Kw5 zp);have HPw5:Hd (PP s p ⟨te,st.opn,st.ng⟩ w5):=zh (HPe4.1.upd Kw5 (by simp [g_p,g_R]) cw5_p qv HPe4.1.ob);have Rw5_R:=zh cw5_R;clear Kw5 cw5_p cw5_R l_p xp l_R xR l_T xT Re4_T HKe4 HPe4 Re4_R;exact ⟨_,rfl,.mk .nil,HPw5.1,HKw5.1⟩
theorem CT{s:ByteArray}{p:Nat}{st:Bq}{tx:ByteArray}{nm fr te:Nat}(ht:Be s st.pos true=some ⟨5,tx,nm,fr,te⟩){st2:Bq}(hx:He s ⟨te,st.opn,st.ng⟩ ⟨#[91]⟩=some (false,st2)):Aw s p st st2 (.mk 4 tx 0 [] (Ag s fr).1 (Ag s fr).2) 294:=by
 intro w h;have g_p:=h.p;obtain ⟨le1,le2,-⟩:=Eo ht h.le;simp only at le1 le2;have le3:=Nat.le_trans le1 le2;have HP0:=zh h;have HK0:=zh (Ac.refl [p] w);have HT:=zh ht;have HX:=zh hx;clear h ht le1 hx
 go_enter Tryz.func294,Tryz.ntmps294
 have l_p:=Ad HP0.1.row
 go_wp2_with fail
 refine MR ?_;rintro w1 ⟨Kw1,cw1_R⟩;have ⟨n_p_R,n_R_p⟩:=Ai l_p;have o_R:w.heap.size≤w.heap.size:=Nat.le_refl _;have g_R:14<w.heap.size:=Nat.lt_trans g_p l_p;have HKw1:=zh (HK0.1.trans Kw1 qg);have HPw1:=zh (HP0.1.keep Kw1);have Rw1_R:=zh cw1_R;clear Kw1 cw1_R l_p HK0 HP0;refine (Kl HPw1.1 HT.1).mono ?_;rintro r e2 ⟨rfl,hk⟩;have Re2_R:=zh (hk.at Rw1_R.1 qg);have HKe2:=zh (HKw1.1.trans hk qg);have HPe2:=zh (HPw1.1.keep hk);clear hk Rw1_R HKw1 HPw1;have l_p:=Ad HPe2.1.row;have l_R:=Ad Re2_R.1
 go_wp2_with fail
 refine qsb ?_;rintro w3 ⟨Kw3,cw3_T⟩;have ⟨n_p_T,n_T_p⟩:=Ai l_p;have ⟨n_R_T,n_T_R⟩:=Ai l_R;have o_T:w.heap.size≤e2.heap.size:=HKe2.1.size;have g_T:14<e2.heap.size:=Nat.lt_trans g_p l_p;have Rw3_R:=zh (Kw3.at Re2_R.1 qg);have HKw3:=zh (HKe2.1.trans Kw3 qg);have HPw3:=zh (HPe2.1.keep Kw3);have Rw3_T:=zh cw3_T;clear Kw3 cw3_T l_p l_R Re2_R HKe2 HPe2;refine (Eh HPw3.1).mono ?_;rintro r w' ⟨rfl,hw'⟩;rw [hw'];clear hw';have l_p:=Ad HPw3.1.row;have l_R:=Ad Rw3_R.1;obtain ⟨l_T,xT⟩:=Bv Rw3_T.1
 go_wp2_with fail
 clear l_p l_R l_T xT;refine (Ji HPw3.1 ⟨5,tx,nm,fr,te⟩ le3).mono ?_;rintro r e4 ⟨rfl,hk⟩;have Re4_R:=zh (hk.at Rw3_R.1 qg);have Re4_T:=zh (hk.at Rw3_T.1 qg);have HKe4:=zh (HKw3.1.trans hk qg);have HPe4:=zh (HPw3.1.keep hk);clear hk Rw3_R Rw3_T HKw3 HPw3;obtain ⟨l_p,xp⟩:=JO HPe4.1.row;have l_R:=Ad Re4_R.1;obtain ⟨l_T,xT⟩:=Bv Re4_T.1
 go_wp2_with fail
 refine ztb ?_;rintro w5 ⟨Kw5,cw5_p⟩;have Rw5_R:=zh (Kw5.at Re4_R.1 qk);have Rw5_T:=zh (Kw5.at Re4_T.1 ql);have HKw5:=zh (HKe4.1.trans Kw5 qg);have HPw5:Hd (PP s p ⟨te,st.opn,st.ng⟩ w5):=zh (HPe4.1.upd Kw5 YV cw5_p qv HPe4.1.ob);clear Kw5 cw5_p l_p xp l_R l_T xT Re4_R Re4_T HKe4 HPe4;refine (Bt HPw5.1 HX.1).mono ?_;rintro r e6 ⟨rfl,hp,hk⟩;have Re6_R:=zh (hk.at Rw5_R.1 qk);have Re6_T:=zh (hk.at Rw5_T.1 ql);have HKe6:=zh (HKw5.1.trans hk qg);have HPne6:=zh hp;clear hp;clear hk Rw5_R Rw5_T HKw5 HPw5;have l_p:=Ad HPne6.1.row;obtain ⟨l_R,xR⟩:=Bv Re6_R.1;obtain ⟨l_T,xT⟩:=Bv Re6_T.1
 go_wp2_with fail
 refine Ap (v:= .agg #[.int .i64 4,.string tx,.float .f64 0,.slice none 0 0,.complex .f64 (Ag s fr).1 (Ag s fr).2]) (fun W=>Ac [w.heap.size] e6 W∧W.heap[w.heap.size]? =some (.cells #[.int .i64 4,.string tx,.float .f64 0,.slice none 0 0,.complex .f64 (Ag s fr).1 (Ag s fr).2] 50 (0,0))) ⟨jg,(zc Re6_R.1 l_R)⟩ (fun w7 hW=> ?_) rfl (fun w7 hW=> ?_)
 ·obtain ⟨Kw7,cw7_R⟩:=hW;exact zge
 obtain ⟨Kw7,cw7_R⟩:=hW;have Rw7_T:=zh (Kw7.at Re6_T.1 jy);have HKw7:=zh (HKe6.1.trans Kw7 zp);have HPw7:=zh (HPne6.1.keepN Kw7 jr zt);have Rw7_R:=zh cw7_R;clear Kw7 cw7_R l_p l_R xR l_T xT Re6_T HKe6 HPne6 Re6_R;exact ⟨_,rfl,.mk .nil,HPw7.1,HKw7.1⟩
theorem OW{s:ByteArray}{p:Nat}{st st':Bq}{l:List Af}{f:FuncId}{args:List Value}{b:World}(h:EU s p st st' l f args)(hp:PP s p st b)(W:World)(hk:Ac [] b W):
  Calls Tryz.prog f (.pointer (some ⟨p,0,none⟩)::args).toArray W fun r w'=>∃v,r= .returned v∧(Bc w' (Dm b.heap.size w'.heap.size) l v∧PP s p st' w'∧Ac [p] b w'):=
 (h W (hp.keep hk)).mono fun _ _ ⟨v,hr,hn,hp',hk'⟩=>⟨v,hr,(hn.to fun _ h=>Nat.le_trans hk.size h).seg,hp',(hk.weaken qg).trans hk' qg⟩
theorem Xx{s:ByteArray}{p:Nat}{st:Bq}{tx:ByteArray}{nm fr te:Nat}(ht:Be s st.pos true=some ⟨5,tx,nm,fr,te⟩){st2 st3:Bq}{l:List Af}(hx:He s ⟨te,st.opn,st.ng⟩ ⟨#[91]⟩=some (true,st2))(hi:EU s p st2 st3 l 189 [.string ⟨#[93]⟩]):Aw s p st st3 (.mk 5 tx 0 l (Ag s fr).1 (Ag s fr).2) 294:=by
 intro w h;have g_p:=h.p;obtain ⟨le1,le2,-⟩:=Eo ht h.le;simp only at le1 le2;have le3:=Nat.le_trans le1 le2;have HP0:=zh h;have HK0:=zh (Ac.refl [p] w);have HT:=zh ht;have HX:=zh hx;have HI:=zh hi;clear h ht le1 hx hi
 go_enter Tryz.func294,Tryz.ntmps294
 have l_p:=Ad HP0.1.row
 go_wp2_with fail
 refine MR ?_;rintro w1 ⟨Kw1,cw1_R⟩;have ⟨n_p_R,n_R_p⟩:=Ai l_p;have o_R:w.heap.size≤w.heap.size:=Nat.le_refl _;have g_R:14<w.heap.size:=Nat.lt_trans g_p l_p;have HKw1:=zh (HK0.1.trans Kw1 qg);have HPw1:=zh (HP0.1.keep Kw1);have Rw1_R:=zh cw1_R;clear Kw1 cw1_R l_p HK0 HP0;refine (Kl HPw1.1 HT.1).mono ?_;rintro r e2 ⟨rfl,hk⟩;have Re2_R:=zh (hk.at Rw1_R.1 qg);have HKe2:=zh (HKw1.1.trans hk qg);have HPe2:=zh (HPw1.1.keep hk);clear hk Rw1_R HKw1 HPw1;have l_p:=Ad HPe2.1.row;have l_R:=Ad Re2_R.1
 go_wp2_with fail
 refine qsb ?_;rintro w3 ⟨Kw3,cw3_T⟩;have ⟨n_p_T,n_T_p⟩:=Ai l_p;have ⟨n_R_T,n_T_R⟩:=Ai l_R;have o_T:w.heap.size≤e2.heap.size:=HKe2.1.size;have g_T:14<e2.heap.size:=Nat.lt_trans g_p l_p;have Rw3_R:=zh (Kw3.at Re2_R.1 qg);have HKw3:=zh (HKe2.1.trans Kw3 qg);have HPw3:=zh (HPe2.1.keep Kw3);have Rw3_T:=zh cw3_T;clear Kw3 cw3_T l_p l_R Re2_R HKe2 HPe2;refine (Eh HPw3.1).mono ?_;rintro r w' ⟨rfl,hw'⟩;rw [hw'];clear hw';have l_p:=Ad HPw3.1.row;have l_R:=Ad Rw3_R.1;obtain ⟨l_T,xT⟩:=Bv Rw3_T.1
 go_wp2_with fail
 clear l_p l_R l_T xT;refine (Ji HPw3.1 ⟨5,tx,nm,fr,te⟩ le3).mono ?_;rintro r e4 ⟨rfl,hk⟩;have Re4_R:=zh (hk.at Rw3_R.1 qg);have Re4_T:=zh (hk.at Rw3_T.1 qg);have HKe4:=zh (HKw3.1.trans hk qg);have HPe4:=zh (HPw3.1.keep hk);clear hk Rw3_R Rw3_T HKw3 HPw3;obtain ⟨l_p,xp⟩:=JO HPe4.1.row;have l_R:=Ad Re4_R.1;obtain ⟨l_T,xT⟩:=Bv Re4_T.1
 go_wp2_with fail
 refine ztb ?_;rintro w5 ⟨Kw5,cw5_p⟩;have Rw5_R:=zh (Kw5.at Re4_R.1 qk);have Rw5_T:=zh (Kw5.at Re4_T.1 ql);have HKw5:=zh (HKe4.1.trans Kw5 qg);have HPw5:Hd (PP s p ⟨te,st.opn,st.ng⟩ w5):=zh (HPe4.1.upd Kw5 YV cw5_p qv HPe4.1.ob);clear Kw5 cw5_p l_p xp l_R l_T xT Re4_R Re4_T HKe4 HPe4;refine (Bt HPw5.1 HX.1).mono ?_;rintro r e6 ⟨rfl,hp,hk⟩;have Re6_R:=zh (hk.at Rw5_R.1 qk);have Re6_T:=zh (hk.at Rw5_T.1 ql);have HKe6:=zh (HKw5.1.trans hk qg);have HPne6:=zh hp;clear hp;clear hk Rw5_R Rw5_T HKw5 HPw5;have l_p:=Ad HPne6.1.row;obtain ⟨l_R,xR⟩:=Bv Re6_R.1;obtain ⟨l_T,xT⟩:=Bv Re6_T.1
 go_upto_region 23 with fail
 have HCl:=zh (OW HI.1 HPne6.1)
 go_upto_region 23 with fail
 go_cut [] (fun W=>∃(u_:World) (la:Option Addr) (ll lc:Nat),Bc u_ (Dm e6.heap.size u_.heap.size) l (.slice la ll lc)∧PP s p ⟨st3.pos,st3.opn,st3.ng⟩ u_∧Ac [p] e6 u_∧Ac [w.heap.size] u_ W∧W.heap[w.heap.size]? =some (.cells #[.int .i64 5,.string tx,.float .f64 0,.slice la ll lc,.complex .f64 (Ag s fr).1 (Ag s fr).2] 50 (0,0)))
 case first=>
  go_region_law ((refine Bd (f:=189) (vals:= #[.pointer (some ⟨p,0,none⟩),.string ⟨#[93]⟩]) rfl _ rfl qh (HCl.1 _ jg) ?_;rintro v u_ ⟨hn,hp,hk⟩;obtain ⟨la,ll,lc,rfl⟩:=hn.slice;have r_R:=hk.at Re6_R.1 qk;have l_R:=Ad r_R;have zR_0:=Aa r_R 0;have zfR_0:=Ab r_R 0;have zR_1:=Aa r_R 1;have zfR_1:=Ab r_R 1;have zR_2:=Aa r_R 2;have zfR_2:=Ab r_R 2;have zR_3:=Aa r_R 3;have zfR_3:=Ab r_R 3;have zR_4:=Aa r_R 4;have zfR_4:=Ab r_R 4;simp at zR_0 zR_1 zR_2 zR_3 zR_4;have r_T:=hk.at Re6_T.1 ql;have l_T:=Ad r_T;have zT_0:=Aa r_T 0;have zfT_0:=Ab r_T 0;have zT_1:=Aa r_T 1;have zfT_1:=Ab r_T 1;have zT_2:=Aa r_T 2;have zfT_2:=Ab r_T 2;have zT_3:=Aa r_T 3;have zfT_3:=Ab r_T 3;have zT_4:=Aa r_T 4;have zfT_4:=Ab r_T 4;simp at zT_0 zT_1 zT_2 zT_3 zT_4))
  all_goals
   go_wp2_with fail
   go_meet
   case rel=>exact ⟨u_,la,ll,lc,hn,hp,hk,jg,(zc r_R l_R)⟩
 clear l_p l_R xR l_T xT;obtain ⟨e7,la,ll,lc,hn,hp,hk,Kw8,cc_R⟩:=hcut;have Re7_R:=zh (hk.at Re6_R.1 qk);have Re7_T:=zh (hk.at Re6_T.1 ql);have HKe7:=zh (HKe6.1.trans hk qg);have HPne7:=zh hp;have le7:=zh hn;have o_l:w.heap.size≤e6.heap.size:=HKe6.1.size;have ns_l_p:¬(Dm e6.heap.size e7.heap.size) (p):=fun h=>Nat.not_lt_of_le h.1 (Ad HPne6.1.row)
 have ns_l_R:¬(Dm e6.heap.size e7.heap.size) (w.heap.size):=fun h=>Nat.not_lt_of_le h.1 (Ad Re6_R.1)
 have ns_l_T:¬(Dm e6.heap.size e7.heap.size) (e2.heap.size):=fun h=>Nat.not_lt_of_le h.1 (Ad Re6_T.1)
 have up_l:∀g,(Dm e6.heap.size e7.heap.size) g→g<e7.heap.size:=fun _ h=>h.2
 have dn_l:∀g,(Dm e6.heap.size e7.heap.size) g→w.heap.size≤g:=fun _ h=>Nat.le_trans o_l h.1
 clear hn hp;clear hk Re6_R Re6_T HKe6 HPne6;have l_p:=Ad HPne7.1.row;have l_R:=Ad Re7_R.1;have l_T:=Ad Re7_T.1;generalize wc=w8 at*
 have cw8_R:=cc_R;clear cc_R;have Rw8_T:=zh (Kw8.at Re7_T.1 jy);have HKw8:=zh (HKe7.1.trans Kw8 zp);have HPw8:=zh (HPne7.1.keepN Kw8 jr zt);have lw8:=zh (le7.1.kp Kw8 (by simp [ns_l_R]));have us_lw8:=Nat.le_trans (Nat.le_refl e7.heap.size) Kw8.size;have Rw8_R:=zh cw8_R;clear Kw8 cw8_R l_p l_R l_T Re7_T HKe7 HPne7 le7 Re7_R;have l_p:=Ad HPw8.1.row;obtain ⟨l_R,xR⟩:=Bv Rw8_R.1;have l_T:=Ad Rw8_T.1
 go_wp2_with fail
 refine Ap (v:= .agg #[.int .i64 5,.string tx,.float .f64 0,.slice la ll lc,.complex .f64 (Ag s fr).1 (Ag s fr).2]) (fun W=>Ac [] w8 W) jg (fun w9 hW=> ?_) rfl (fun w9 hW=> ?_)
 ·have Kw9:Ac [] w8 w9:=hW;have q0:=Aa (Kw9.at Rw8_R.1 qg) 0;have q1:=Aa (Kw9.at Rw8_R.1 qg) 1;have q2:=Aa (Kw9.at Rw8_R.1 qg) 2;have q3:=Aa (Kw9.at Rw8_R.1 qg) 3;have q4:=Aa (Kw9.at Rw8_R.1 qg) 4;simp at q0 q1 q2 q3 q4;exact UK
 have Kw9:Ac [] w8 w9:=hW;have Rw9_R:=zh (Kw9.at Rw8_R.1 qg);have Rw9_T:=zh (Kw9.at Rw8_T.1 qg);have HKw9:=zh (HKw8.1.trans Kw9 qg);have HPw9:=zh (HPw8.1.keep Kw9);have lw9:=zh (lw8.1.kp Kw9 qg);have us_lw9:=Nat.le_trans us_lw8 Kw9.size;clear Kw9 l_p l_R xR l_T Rw8_R Rw8_T HKw8 HPw8 lw8 us_lw8;exact ⟨_,rfl,.mk (lw9.1.to dn_l),HPw9.1,HKw9.1⟩
theorem Vy{s:ByteArray}{p:Nat}{st:Bq}{tx:ByteArray}{nm fr te:Nat}(ht:Be s st.pos true=some ⟨9,tx,nm,fr,te⟩){st2:Bq}{n:Af}(htx:(tx.toList== [36])=true)(hd:Aw s p ⟨te,st.opn,st.ng⟩ st2 n 296):Aw s p st st2 (.mk 6 ⟨#[]⟩ 0 [n] (Ag s fr).1 (Ag s fr).2) 294:=by
 intro w h;have g_p:=h.p;obtain ⟨le1,le2,-⟩:=Eo ht h.le;simp only at le1 le2;have le3:=Nat.le_trans le1 le2;have HP0:=zh h;have HK0:=zh (Ac.refl [p] w);have HT:=zh ht;have HD:=zh hd;clear h ht le1 hd
 go_enter Tryz.func294,Tryz.ntmps294
 have l_p:=Ad HP0.1.row
 go_wp2_with fail
 refine MR ?_;rintro w1 ⟨Kw1,cw1_R⟩;have ⟨n_p_R,n_R_p⟩:=Ai l_p;have o_R:w.heap.size≤w.heap.size:=Nat.le_refl _;have g_R:14<w.heap.size:=Nat.lt_trans g_p l_p;have HKw1:=zh (HK0.1.trans Kw1 qg);have HPw1:=zh (HP0.1.keep Kw1);have Rw1_R:=zh cw1_R;clear Kw1 cw1_R l_p HK0 HP0;refine (Kl HPw1.1 HT.1).mono ?_;rintro r e2 ⟨rfl,hk⟩;have Re2_R:=zh (hk.at Rw1_R.1 qg);have HKe2:=zh (HKw1.1.trans hk qg);have HPe2:=zh (HPw1.1.keep hk);clear hk Rw1_R HKw1 HPw1;have l_p:=Ad HPe2.1.row;have l_R:=Ad Re2_R.1
 go_wp2_with fail
 refine An (fun W=>Ac [] e2 W∧W.heap[e2.heap.size]? =some (.cells #[.int .i64 9,.string tx,.float .f64 nm,.int .i64 fr,.int .i64 te] 90 (0,0))) ⟨jg,jb⟩ ?_;rintro w3 ⟨Kw3,cw3_T⟩;have ⟨n_p_T,n_T_p⟩:=Ai l_p;have ⟨n_R_T,n_T_R⟩:=Ai l_R;have o_T:w.heap.size≤e2.heap.size:=HKe2.1.size;have g_T:14<e2.heap.size:=Nat.lt_trans g_p l_p;have Rw3_R:=zh (Kw3.at Re2_R.1 qg);have HKw3:=zh (HKe2.1.trans Kw3 qg);have HPw3:=zh (HPe2.1.keep Kw3);have Rw3_T:=zh cw3_T;clear Kw3 cw3_T l_p l_R Re2_R HKe2 HPe2;refine (Eh HPw3.1).mono ?_;rintro r w' ⟨rfl,hw'⟩;rw [hw'];clear hw';have l_p:=Ad HPw3.1.row;have l_R:=Ad Rw3_R.1;obtain ⟨l_T,xT⟩:=Bv Rw3_T.1
 go_wp2_with fail
 clear l_p l_R l_T xT;refine (Ji HPw3.1 ⟨9,tx,nm,fr,te⟩ le3).mono ?_;rintro r e4 ⟨rfl,hk⟩;have Re4_R:=zh (hk.at Rw3_R.1 qg);have Re4_T:=zh (hk.at Rw3_T.1 qg);have HKe4:=zh (HKw3.1.trans hk qg);have HPe4:=zh (HPw3.1.keep hk);clear hk Rw3_R Rw3_T HKw3 HPw3;obtain ⟨l_p,xp⟩:=JO HPe4.1.row;have l_R:=Ad Re4_R.1;obtain ⟨l_T,xT⟩:=Bv Re4_T.1
 go_wp2_with fail
 refine ztb ?_;rintro w5 ⟨Kw5,cw5_p⟩;have Rw5_R:=zh (Kw5.at Re4_R.1 qk);have Rw5_T:=zh (Kw5.at Re4_T.1 ql);have HKw5:=zh (HKe4.1.trans Kw5 qg);have HPw5:Hd (PP s p ⟨te,st.opn,st.ng⟩ w5):=zh (HPe4.1.upd Kw5 YV cw5_p qv HPe4.1.ob);clear Kw5 cw5_p l_p xp l_R l_T xT Re4_R Re4_T HKe4 HPe4;refine (HD.1 _ HPw5.1).mono ?_;rintro r e6 ⟨v,rfl,hn,hp,hk⟩;have Re6_R:=zh (hk.at Rw5_R.1 qk);have Re6_T:=zh (hk.at Rw5_T.1 ql);have HKe6:=zh (HKw5.1.trans hk qg);have HPne6:=zh hp;have ne6:=zh hn.seg;have o_n:w.heap.size≤w5.heap.size:=HKw5.1.size;have ns_n_p:¬(Dm w5.heap.size e6.heap.size) (p):=fun h=>Nat.not_lt_of_le h.1 (Ad HPw5.1.row)
 have ns_n_R:¬(Dm w5.heap.size e6.heap.size) (w.heap.size):=fun h=>Nat.not_lt_of_le h.1 (Ad Rw5_R.1)
 have ns_n_T:¬(Dm w5.heap.size e6.heap.size) (e2.heap.size):=fun h=>Nat.not_lt_of_le h.1 (Ad Rw5_T.1)
 have up_n:∀g,(Dm w5.heap.size e6.heap.size) g→g<e6.heap.size:=fun _ h=>h.2
 have dn_n:∀g,(Dm w5.heap.size e6.heap.size) g→w.heap.size≤g:=fun _ h=>Nat.le_trans o_n h.1
 obtain ⟨nt,nm,na,nl,nc,nr,ni,rfl,-,-⟩:=hn.shape;clear hn hp;clear hk Rw5_R Rw5_T HKw5 HPw5;have l_p:=Ad HPne6.1.row;obtain ⟨l_R,xR⟩:=Bv Re6_R.1;have l_T:=Ad Re6_T.1
 go_wp2_with fail
 refine Ap (v:= .agg #[.int .i64 6,.string ⟨#[]⟩,.float .f64 0,.slice (some ⟨e6.heap.size,0,none⟩) 1 1,.complex .f64 (Ag s fr).1 (Ag s fr).2]) (fun W=>Ac [w.heap.size] e6 W∧W.heap[w.heap.size]? =some (.cells #[.int .i64 6,.string ⟨#[]⟩,.float .f64 0,.slice (some ⟨e6.heap.size,0,none⟩) 1 1,.complex .f64 (Ag s fr).1 (Ag s fr).2] 50 (0,0))∧W.heap[e6.heap.size]? =some (.cells #[.int .i64 n.kind,.string nt,.float .f64 nm,.slice na nl nc,.complex .f64 nr ni] 50 (0,0))) ⟨jg,(qb Re6_R.1 l_R),(qb Re6_R.1 l_R)⟩ (fun w7 hW=> ?_) rfl (fun w7 hW=> ?_)
 ·obtain ⟨Kw7,cw7_R,cw7_G⟩:=hW;exact zge
 obtain ⟨Kw7,cw7_R,cw7_G⟩:=hW;have ⟨n_p_G,n_G_p⟩:=Ai l_p;have ⟨n_R_G,n_G_R⟩:=Ai l_R;have ⟨n_T_G,n_G_T⟩:=Ai l_T;have o_G:w.heap.size≤e6.heap.size:=HKe6.1.size;have g_G:14<e6.heap.size:=Nat.lt_trans g_p l_p;have ns_n_G:¬(Dm w5.heap.size e6.heap.size) (e6.heap.size):=fun h=>Nat.not_lt_of_le ((Nat.le_refl e6.heap.size)) (up_n _ h)
 have Rw7_T:=zh (Kw7.at Re6_T.1 jy);have HKw7:=zh (HKe6.1.trans Kw7 zp);have HPw7:=zh (HPne6.1.keepN Kw7 jr zt);have nw7:=zh (ne6.1.kp Kw7 qw);have us_nw7:=Nat.le_trans (Nat.le_refl e6.heap.size) Kw7.size;have Rw7_R:=zh cw7_R;have Rw7_G:=zh cw7_G;clear Kw7 cw7_R cw7_G l_p l_R xR l_T Re6_T HKe6 HPne6 ne6 Re6_R;exact ⟨_,rfl,.mk (.some (S:=fun g=>w.heap.size≤g) o_G (Ad Rw7_G.1) (row1 nw7.1 dn_n Rw7_G.1)),HPw7.1,HKw7.1⟩
theorem Co{s:ByteArray}{st:Bq}{x:ByteArray}(h:Dv s st x=some ()):He s st x=some (false,st):=by
 unfold Dv AW at h;unfold He
 cases ht:Be s st.pos false with
 |none=>rw [ht] at h;simp at h
 |some t=>
  rw [ht] at h;simp only [Option.bind_eq_bind,Option.bind_some] at h⊢
  cases hb:Ya t x
  ·simp [hb]
  rw [hb] at h;simp at h
theorem CD{s:ByteArray}{p:Nat}{st:Bq}{kd:Int}{tx:ByteArray}{nm fr te:Nat}(ht:Be s st.pos true=some ⟨kd,tx,nm,fr,te⟩)(hn_break:Dv s st ⟨#[98,114,101,97,107]⟩=some ())(hn_continue:Dv s st ⟨#[99,111,110,116,105,110,117,101]⟩=some ()){st2:Bq}(hx:He s st ⟨#[110,101,120,116]⟩=some (true,st2)):Aw s p st st2 (.mk 38 ⟨#[]⟩ 0 [] (Ag s fr).1 (Ag s fr).2) 165:=by
 intro w h;have g_p:=h.p;have HP0:=zh h;have HK0:=zh (Ac.refl [p] w);have HT:=zh ht;have HN_break:=zh (Co hn_break);have HN_continue:=zh (Co hn_continue);have HX:=zh hx;clear h ht hn_break hn_continue hx
 go_enter Tryz.func165,Tryz.ntmps165
 have l_p:=Ad HP0.1.row
 go_wp2_with fail
 refine MR ?_;rintro w1 ⟨Kw1,cw1_R⟩;have ⟨n_p_R,n_R_p⟩:=Ai l_p;have o_R:w.heap.size≤w.heap.size:=Nat.le_refl _;have g_R:14<w.heap.size:=Nat.lt_trans g_p l_p;have HKw1:=zh (HK0.1.trans Kw1 qg);have HPw1:=zh (HP0.1.keep Kw1);have Rw1_R:=zh cw1_R;clear Kw1 cw1_R l_p HK0 HP0;refine YX ?_;rintro r e2 ⟨rfl,hk⟩;have Re2_R:=zh (hk.at Rw1_R.1 qg);have HKe2:=zh (HKw1.1.trans hk qg);have HPe2:=zh (HPw1.1.keep hk);clear hk Rw1_R HKw1 HPw1;have l_p:=Ad HPe2.1.row;have l_R:=Ad Re2_R.1
 go_wp2_with fail
 refine qtb ?_;rintro w3 ⟨Kw3,cw3_T⟩;have ⟨n_p_T,n_T_p⟩:=Ai l_p;have ⟨n_R_T,n_T_R⟩:=Ai l_R;have o_T:w.heap.size≤e2.heap.size:=HKe2.1.size;have g_T:14<e2.heap.size:=Nat.lt_trans g_p l_p;have Rw3_R:=zh (Kw3.at Re2_R.1 qg);have HKw3:=zh (HKe2.1.trans Kw3 qg);have HPw3:=zh (HPe2.1.keep Kw3);have Rw3_T:=zh cw3_T;clear Kw3 cw3_T l_p l_R Re2_R HKe2 HPe2;refine (Bt HPw3.1 HN_break.1).mono ?_;rintro r e4 ⟨rfl,hp,hk⟩;have Re4_R:=zh (hk.at Rw3_R.1 qk);have Re4_T:=zh (hk.at Rw3_T.1 ql);have HKe4:=zh (HKw3.1.trans hk qg);have HPne4:=zh hp;clear hp;clear hk Rw3_R Rw3_T HKw3 HPw3;have l_p:=Ad HPne4.1.row;have l_R:=Ad Re4_R.1;have l_T:=Ad Re4_T.1
 go_wp2_with fail
 clear l_p l_R l_T;refine (Bt HPne4.1 HN_continue.1).mono ?_;rintro r e5 ⟨rfl,hp,hk⟩;have Re5_R:=zh (hk.at Re4_R.1 qk);have Re5_T:=zh (hk.at Re4_T.1 ql);have HKe5:=zh (HKe4.1.trans hk qg);have HPne5:=zh hp;clear hp;clear hk Re4_R Re4_T HKe4 HPne4;have l_p:=Ad HPne5.1.row;have l_R:=Ad Re5_R.1;have l_T:=Ad Re5_T.1
 go_wp2_with fail
 clear l_p l_R l_T;refine (Bt HPne5.1 HX.1).mono ?_;rintro r e6 ⟨rfl,hp,hk⟩;have Re6_R:=zh (hk.at Re5_R.1 qk);have Re6_T:=zh (hk.at Re5_T.1 ql);have HKe6:=zh (HKe5.1.trans hk qg);have HPne6:=zh hp;clear hp;clear hk Re5_R Re5_T HKe5 HPne5;have l_p:=Ad HPne6.1.row;obtain ⟨l_R,xR⟩:=Bv Re6_R.1;have l_T:=Ad Re6_T.1
 go_wp2_with fail
 refine Ap (v:= .agg #[.int .i64 38,.string ⟨#[]⟩,.float .f64 0,.slice none 0 0,.complex .f64 (Ag s fr).1 (Ag s fr).2]) (fun W=>Ac [w.heap.size] e6 W∧W.heap[w.heap.size]? =some (.cells #[.int .i64 38,.string ⟨#[]⟩,.float .f64 0,.slice none 0 0,.complex .f64 (Ag s fr).1 (Ag s fr).2] 50 (0,0))) ⟨jg,(zc Re6_R.1 l_R)⟩ (fun w7 hW=> ?_) rfl (fun w7 hW=> ?_)
 ·obtain ⟨Kw7,cw7_R⟩:=hW;exact zge
 obtain ⟨Kw7,cw7_R⟩:=hW;have Rw7_T:=zh (Kw7.at Re6_T.1 jy);have HKw7:=zh (HKe6.1.trans Kw7 zp);have HPw7:=zh (HPne6.1.keepN Kw7 jr zt);have Rw7_R:=zh cw7_R;clear Kw7 cw7_R l_p l_R xR l_T Re6_T HKe6 HPne6 Re6_R;exact ⟨_,rfl,.mk .nil,HPw7.1,HKw7.1⟩
theorem CE{s:ByteArray}{p:Nat}{st:Bq}{kd:Int}{tx:ByteArray}{nm fr te:Nat}(ht:Be s st.pos true=some ⟨kd,tx,nm,fr,te⟩)(hn_break:Dv s st ⟨#[98,114,101,97,107]⟩=some ())(hn_continue:Dv s st ⟨#[99,111,110,116,105,110,117,101]⟩=some ())(hn_next:Dv s st ⟨#[110,101,120,116]⟩=some ())(hn_exit:Dv s st ⟨#[101,120,105,116]⟩=some ())(hn_return:Dv s st ⟨#[114,101,116,117,114,110]⟩=some ())(hn_delete:Dv s st ⟨#[100,101,108,101,116,101]⟩=some ())(hn_print:Dv s st ⟨#[112,114,105,110,116]⟩=some ())(hn_printf:Dv s st ⟨#[112,114,105,110,116,102]⟩=some ()){st2:Bq}{n:Af}(he:Aw s p st st2 n 109):Aw s p st st2 (.mk 44 ⟨#[]⟩ 0 [n] n.re n.im) 165:=by
 intro w h;have g_p:=h.p;have HP0:=zh h;have HK0:=zh (Ac.refl [p] w);have HT:=zh ht;have HN_break:=zh (Co hn_break);have HN_continue:=zh (Co hn_continue);have HN_next:=zh (Co hn_next);have HN_exit:=zh (Co hn_exit);have HN_return:=zh (Co hn_return);have HN_delete:=zh (Co hn_delete);have HN_print:=zh (Co hn_print);have HN_printf:=zh (Co hn_printf);have HE:=zh he;clear h ht hn_break hn_continue hn_next hn_exit hn_return hn_delete hn_print hn_printf he
 go_enter Tryz.func165,Tryz.ntmps165
 have l_p:=Ad HP0.1.row
 go_wp2_with fail
 refine MR ?_;rintro w1 ⟨Kw1,cw1_R⟩;have ⟨n_p_R,n_R_p⟩:=Ai l_p;have o_R:w.heap.size≤w.heap.size:=Nat.le_refl _;have g_R:14<w.heap.size:=Nat.lt_trans g_p l_p;have HKw1:=zh (HK0.1.trans Kw1 qg);have HPw1:=zh (HP0.1.keep Kw1);have Rw1_R:=zh cw1_R;clear Kw1 cw1_R l_p HK0 HP0;refine YX ?_;rintro r e2 ⟨rfl,hk⟩;have Re2_R:=zh (hk.at Rw1_R.1 qg);have HKe2:=zh (HKw1.1.trans hk qg);have HPe2:=zh (HPw1.1.keep hk);clear hk Rw1_R HKw1 HPw1;have l_p:=Ad HPe2.1.row;have l_R:=Ad Re2_R.1
 go_wp2_with fail
 refine qtb ?_;rintro w3 ⟨Kw3,cw3_T⟩;have ⟨n_p_T,n_T_p⟩:=Ai l_p;have ⟨n_R_T,n_T_R⟩:=Ai l_R;have o_T:w.heap.size≤e2.heap.size:=HKe2.1.size;have g_T:14<e2.heap.size:=Nat.lt_trans g_p l_p;have Rw3_R:=zh (Kw3.at Re2_R.1 qg);have HKw3:=zh (HKe2.1.trans Kw3 qg);have HPw3:=zh (HPe2.1.keep Kw3);have Rw3_T:=zh cw3_T;clear Kw3 cw3_T l_p l_R Re2_R HKe2 HPe2;refine (Bt HPw3.1 HN_break.1).mono ?_;rintro r e4 ⟨rfl,hp,hk⟩;have Re4_R:=zh (hk.at Rw3_R.1 qk);have Re4_T:=zh (hk.at Rw3_T.1 ql);have HKe4:=zh (HKw3.1.trans hk qg);have HPne4:=zh hp;clear hp;clear hk Rw3_R Rw3_T HKw3 HPw3;have l_p:=Ad HPne4.1.row;have l_R:=Ad Re4_R.1;have l_T:=Ad Re4_T.1
 go_wp2_with fail
 clear l_p l_R l_T;refine (Bt HPne4.1 HN_continue.1).mono ?_;rintro r e5 ⟨rfl,hp,hk⟩;have Re5_R:=zh (hk.at Re4_R.1 qk);have Re5_T:=zh (hk.at Re4_T.1 ql);have HKe5:=zh (HKe4.1.trans hk qg);have HPne5:=zh hp;clear hp;clear hk Re4_R Re4_T HKe4 HPne4;have l_p:=Ad HPne5.1.row;have l_R:=Ad Re5_R.1;have l_T:=Ad Re5_T.1
 go_wp2_with fail
 clear l_p l_R l_T;refine (Bt HPne5.1 HN_next.1).mono ?_;rintro r e6 ⟨rfl,hp,hk⟩;have Re6_R:=zh (hk.at Re5_R.1 qk);have Re6_T:=zh (hk.at Re5_T.1 ql);have HKe6:=zh (HKe5.1.trans hk qg);have HPne6:=zh hp;clear hp;clear hk Re5_R Re5_T HKe5 HPne5;have l_p:=Ad HPne6.1.row;have l_R:=Ad Re6_R.1;have l_T:=Ad Re6_T.1
 go_wp2_with fail
 clear l_p l_R l_T;refine (Bt HPne6.1 HN_exit.1).mono ?_;rintro r e7 ⟨rfl,hp,hk⟩;have Re7_R:=zh (hk.at Re6_R.1 qk);have Re7_T:=zh (hk.at Re6_T.1 ql);have HKe7:=zh (HKe6.1.trans hk qg);have HPne7:=zh hp;clear hp;clear hk Re6_R Re6_T HKe6 HPne6;have l_p:=Ad HPne7.1.row;have l_R:=Ad Re7_R.1;have l_T:=Ad Re7_T.1
 go_wp2_with fail
 clear l_p l_R l_T;refine (Bt HPne7.1 HN_return.1).mono ?_;rintro r e8 ⟨rfl,hp,hk⟩;have Re8_R:=zh (hk.at Re7_R.1 qk);have Re8_T:=zh (hk.at Re7_T.1 ql);have HKe8:=zh (HKe7.1.trans hk qg);have HPne8:=zh hp;clear hp;clear hk Re7_R Re7_T HKe7 HPne7;have l_p:=Ad HPne8.1.row;have l_R:=Ad Re8_R.1;have l_T:=Ad Re8_T.1
 go_wp2_with fail
 clear l_p l_R l_T;refine (Bt HPne8.1 HN_delete.1).mono ?_;rintro r e9 ⟨rfl,hp,hk⟩;have Re9_R:=zh (hk.at Re8_R.1 qk);have Re9_T:=zh (hk.at Re8_T.1 ql);have HKe9:=zh (HKe8.1.trans hk qg);have HPne9:=zh hp;clear hp;clear hk Re8_R Re8_T HKe8 HPne8;have l_p:=Ad HPne9.1.row;have l_R:=Ad Re9_R.1;have l_T:=Ad Re9_T.1
 go_wp2_with fail
 clear l_p l_R l_T;refine (Bt HPne9.1 HN_print.1).mono ?_;rintro r e10 ⟨rfl,hp,hk⟩;have Re10_R:=zh (hk.at Re9_R.1 qk);have Re10_T:=zh (hk.at Re9_T.1 ql);have HKe10:=zh (HKe9.1.trans hk qg);have HPne10:=zh hp;clear hp;clear hk Re9_R Re9_T HKe9 HPne9;have l_p:=Ad HPne10.1.row;have l_R:=Ad Re10_R.1;have l_T:=Ad Re10_T.1
 go_wp2_with fail
 clear l_p l_R l_T;refine (Bt HPne10.1 HN_printf.1).mono ?_;rintro r e11 ⟨rfl,hp,hk⟩;have Re11_R:=zh (hk.at Re10_R.1 qk);have Re11_T:=zh (hk.at Re10_T.1 ql);have HKe11:=zh (HKe10.1.trans hk qg);have HPne11:=zh hp;clear hp;clear hk Re10_R Re10_T HKe10 HPne10;have l_p:=Ad HPne11.1.row;have l_R:=Ad Re11_R.1;have l_T:=Ad Re11_T.1
 go_wp2_with fail
 clear l_p l_R l_T;refine (HE.1 _ HPne11.1).mono ?_;rintro r e12 ⟨v,rfl,hn,hp,hk⟩;have Re12_R:=zh (hk.at Re11_R.1 qk);have Re12_T:=zh (hk.at Re11_T.1 ql);have HKe12:=zh (HKe11.1.trans hk qg);have HPne12:=zh hp;have ne12:=zh hn.seg;have o_n:w.heap.size≤e11.heap.size:=HKe11.1.size;have ns_n_p:¬(Dm e11.heap.size e12.heap.size) (p):=fun h=>Nat.not_lt_of_le h.1 (Ad HPne11.1.row)
 have ns_n_R:¬(Dm e11.heap.size e12.heap.size) (w.heap.size):=fun h=>Nat.not_lt_of_le h.1 (Ad Re11_R.1)
 have ns_n_T:¬(Dm e11.heap.size e12.heap.size) (e2.heap.size):=fun h=>Nat.not_lt_of_le h.1 (Ad Re11_T.1)
 have up_n:∀g,(Dm e11.heap.size e12.heap.size) g→g<e12.heap.size:=fun _ h=>h.2
 have dn_n:∀g,(Dm e11.heap.size e12.heap.size) g→w.heap.size≤g:=fun _ h=>Nat.le_trans o_n h.1
 obtain ⟨nt,nm,na,nl,nc,nr,ni,rfl,-,-⟩:=hn.shape;clear hn hp;clear hk Re11_R Re11_T HKe11 HPne11;have l_p:=Ad HPne12.1.row;have l_p_1:p<e12.heap.size+1:=Nat.lt_add_right 1 l_p;obtain ⟨l_R,xR⟩:=Bv Re12_R.1;have l_R_1:w.heap.size<e12.heap.size+1:=Nat.lt_add_right 1 l_R;have l_T:=Ad Re12_T.1;have l_T_1:e2.heap.size<e12.heap.size+1:=Nat.lt_add_right 1 l_T
 go_wp2_with fail
 refine Ap (v:= .agg #[.int .i64 44,.string ⟨#[]⟩,.float .f64 0,.slice (some ⟨e12.heap.size+1,0,none⟩) 1 1,.complex .f64 nr ni]) (fun W=>Ac [w.heap.size] e12 W∧W.heap[w.heap.size]? =some (.cells #[.int .i64 44,.string ⟨#[]⟩,.float .f64 0,.slice (some ⟨e12.heap.size+1,0,none⟩) 1 1,.complex .f64 nr ni] 50 (0,0))∧W.heap[e12.heap.size]? =some (.cells #[.int .i64 n.kind,.string nt,.float .f64 nm,.slice na nl nc,.complex .f64 nr ni] 50 (0,0))∧W.heap[e12.heap.size+1]? =some (.cells #[.int .i64 n.kind,.string nt,.float .f64 nm,.slice na nl nc,.complex .f64 nr ni] 50 (0,0))) ⟨jg,(zd Re12_R.1 l_R),(zd Re12_R.1 l_R),(zd Re12_R.1 l_R)⟩ (fun w13 hW=> ?_) rfl (fun w13 hW=> ?_)
 ·obtain ⟨Kw13,cw13_R,cw13_B,cw13_G⟩:=hW;have q0:=Aa cw13_R 0;have q1:=Aa cw13_R 1;have q2:=Aa cw13_R 2;have q3:=Aa cw13_R 3;have q4:=Aa cw13_R 4;simp at q0 q1 q2 q3 q4;exact UK
 obtain ⟨Kw13,cw13_R,cw13_B,cw13_G⟩:=hW;have ⟨n_p_B,n_B_p⟩:=Ai l_p;have ⟨n_R_B,n_B_R⟩:=Ai l_R;have ⟨n_T_B,n_B_T⟩:=Ai l_T;have o_B:w.heap.size≤e12.heap.size:=HKe12.1.size;have g_B:14<e12.heap.size:=Nat.lt_trans g_p l_p;have ns_n_B:¬(Dm e11.heap.size e12.heap.size) (e12.heap.size):=fun h=>Nat.not_lt_of_le ((Nat.le_refl e12.heap.size)) (up_n _ h)
 have ⟨n_p_G,n_G_p⟩:=Ai (Nat.lt_add_right 1 l_p);have ⟨n_R_G,n_G_R⟩:=Ai (Nat.lt_add_right 1 l_R);have ⟨n_T_G,n_G_T⟩:=Ai (Nat.lt_add_right 1 l_T);have n_B_G:e12.heap.size≠e12.heap.size+1:=by simp
 have n_G_B:e12.heap.size+1≠e12.heap.size:=by simp
 have o_G:w.heap.size≤e12.heap.size+1:=Nat.le_trans (HKe12.1.size) (Nat.le_add_right _ 1);have g_G:14<e12.heap.size+1:=Nat.lt_trans g_p (Nat.lt_add_right 1 l_p);have ns_n_G:¬(Dm e11.heap.size e12.heap.size) (e12.heap.size+1):=fun h=>Nat.not_lt_of_le (Nat.le_add_right_of_le (Nat.le_refl e12.heap.size)) (up_n _ h)
 have Rw13_T:=zh (Kw13.at Re12_T.1 jy);have HKw13:=zh (HKe12.1.trans Kw13 zp);have HPw13:=zh (HPne12.1.keepN Kw13 jr zt);have nw13:=zh (ne12.1.kp Kw13 qw);have us_nw13:=Nat.le_trans (Nat.le_refl e12.heap.size) Kw13.size;have Rw13_R:=zh cw13_R;have Rw13_B:=zh cw13_B;have Rw13_G:=zh cw13_G;clear Kw13 cw13_R cw13_B cw13_G l_p l_p_1 l_R l_R_1 xR l_T l_T_1 Re12_T HKe12 HPne12 ne12 Re12_R;have hri:=nw13.1.reim;rw [←hri.1,←hri.2];exact ⟨_,rfl,.mk (.some (S:=fun g=>w.heap.size≤g) o_G (Ad Rw13_G.1) (row1 nw13.1 dn_n Rw13_G.1)),HPw13.1,HKw13.1⟩
end Go.Proofs.YtkfillfkbhbbjaaGreatDoor
