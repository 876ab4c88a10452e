/- MkQ. -/
import Derived.Test.YtkfillfkbhbbjaaGreatDoorMkR
import Derived.Test.YtkfillfkbhbbjaaGreatDoorRegS
import Derived.Test.YtkfillfkbhbbjaaGreatDoorNamA
import Derived.Deep.RegionHeld3
import Derived.Deep.CutBlock
import Derived.Deep.DeepCutAuto
import Derived.Deep.RegionLaw
set_option maxRecDepth 100000
set_option maxHeartbeats 4000000
set_option linter.unusedSimpArgs false
set_option linter.unusedVariables false
namespace Go.Proofs.YtkfillfkbhbbjaaGreatDoor
open Go.RowKit
theorem jod{p:Prop}(h:p:=by
 replace HP:=zh (HP.1.kp hk qg);replace HG:=zh (hk.at HG.1 qg);replace HO:=zh (HO.1.step hk qg);replace HR:=zh (hk.at HR.1 qg);replace HKp:=zh (HKp.1.step hk qg);replace HOb:=zh (HOb.1.step hk qg);replace HZ:=zh (Nat.le_trans HZ.1 hk.size);replace HI:=zh (HI.1.step hk qg);have HS3:=zh hr;clear hk hr;refine YU ?_;refine AllReadyH.cons rfl (fun K hK=> ?_) AllReadyH.nil;refine ID rfl (.tmp 60) (.tmp 68) rfl rfl rfl HOb.1 HS3.1 HI.1 (Nat.le_refl _) HZ.1 HS6.1 jh ?_;rintro vb wb fl hfl hk hown;obtain ⟨aaq,ccq,rfl⟩:=hown.slice;replace HP:=zh (HP.1.kp hk (fun x hx=>by have:=hfl x hx;have:=HKE.1;have:=HGE.1;have:=HRG.1;have:=HeR.1;omega));replace HG:=zh (hk.at HG.1 (fun hx=>by have:=hfl _ hx;have:=HKE.1;have:=HGE.1;have:=HRG.1;have:=HeR.1;omega));replace HO:=zh (HO.1.step hk (fun x hx=>by have:=hfl x hx;have:=HKE.1;have:=HGE.1;have:=HRG.1;have:=HeR.1;omega));replace HR:=zh (hk.at HR.1 (fun hx=>by have:=hfl _ hx;have:=HKE.1;have:=HGE.1;have:=HRG.1;have:=HeR.1;omega));replace HKp:=zh (HKp.1.step hk (fun x hx=>by have:=hfl x hx;have:=HKE.1;have:=HGE.1;have:=HRG.1;have:=HeR.1;omega));replace HZ:=zh (Nat.le_trans HZ.1 hk.size);replace HOb:=zh hown;clear HI HS3;refine hK.out _ _ (Bg (W:=wb) (fp:= []) (Ac.refl [] _) HR.1 rfl qg) (fun hSS=> ?_);clear hK hk hown hfl;refine Gv ?_;refine qmc ?_;refine Ej ?_;refine znc ?_;refine Ej ?_
 obtain ⟨lR,z0,z1,z2,z3,z4,z5,z6,z7,z8,f0,f1,f2,f3,f4,f5,f6,f7,f8⟩:=BI HR.1;refine EY ?_;refine hR1 _ _ (fun K' hK'=> ?_);have HQQ:=zh hK';clear hR1 hR3 hSS hK'
 go_simp
 refine HQQ.1 _ _ ?_;clear HQQ;refine zfd ?_;rintro wd ⟨hk,hr⟩;replace HP:=zh (HP.1.kp hk qn);replace HG:=zh (hk.at HG.1 (by have:=HRG.1;simp;omega));replace HO:=zh (HO.1.step hk js);replace HR:=zh hr;replace HKp:=zh (HKp.1.step hk qg);replace HOb:=zh (HOb.1.step hk qi);have HKb:Hd (Kd (R+1) 24487 wd (.slice aaq (bm+1) ccq)):=zh ((HOb.1.kids.low hb6).to' jh);clear hk hr lR z0 z1 z2 z3 z4 z5 z6 z7 z8 f0 f1 f2 f3 f4 f5 f6 f7 f8;have HRl:Hd (Rl (R+1) 24550 wd [.int .i64 kd,.int .i64 n,.slice pa pl pc,.int .i64 30,.string ⟨#[]⟩,.float .f64 0,.slice aaq (bm+1) ccq,.complex .f64 0 0,.complex .f64 0 0]):=zh (Rl.mk HK7.1 HKp.1.kd (HKb.1.mk zi));obtain ⟨lR,z0,z1,z2,z3,z4,z5,z6,z7,z8,f0,f1,f2,f3,f4,f5,f6,f7,f8⟩:=BI HR.1;obtain ⟨lG,gg⟩:=Ki HG.1
 go_wp2_with (
  at_builtin
  go_loud (
   refine jfd ?_;rintro wq ⟨hk,hr⟩;have HPq:=zh (HP.1.kp hk qg);have HGq:=zh (hk.at HG.1 qg);refine BM rfl (.tmp 73) (.tmp 75) rfl rfl rfl (HO.1.step hk qg) hr (HRl.1.step hk qg) zcb zv HE3.1 jh ?_))
 intro va' wa fl hfl hk2 hown;obtain ⟨aa,cc,rfl⟩:=hown.slice;have HPa:=zh (HPq.1.kp hk2 (fun x hx=>by have:=hfl x hx;omega));have HGa:=zh (hk2.at HGq.1 (fun hx=>by have:=hfl _ hx;have:=HGE.1;omega));have HOa:=zh hown;clear hk hr hk2 hown hfl HPq HGq;clear lG gg lR z0 z1 z2 z3 z4 z5 z6 z7 z8 f0 f1 f2 f3 f4 f5 f6 f7 f8;obtain ⟨lG,gg⟩:=Ki HGa.1
 go_wp2_with fail
 go_roundg (gk -1)
 case measure=>omega
 have e2:=Nat.succ_mul m 24550;simp only [Nat.succ_eq_add_one] at e2;refine qfd ?_;rintro wz ⟨hk,hr⟩;exact zgd):p:=h
def Tf(p:Prop):Prop:=p
theorem Tf.out{p:Prop}(h:Tf p):p:=h
theorem Tf.mk{p:Prop}(h:p):Tf p:=h
theorem Kd.to'{b Z Z':Nat}{W:World}{v:Value}(h:Kd b Z W v)(hZ:Z≤Z'):Kd b Z' W v:=by
 obtain ⟨ns,h1,h2,h3⟩:=h;exact ⟨ns,h1,h2,by omega⟩
theorem Bg{W V:World}{fp:List Nat}{g j:Nat}{c:Array Value}{t:TypeId}{f:Nat×Nat}{x:Value}(hk:Ac fp W V)(hr:W.heap[g]? =some (.cells c t f))(hx:c[j]? =some x)(hn:g∉fp):V.cell? ⟨g,j,none⟩=some x:=by
 rw [Aa (hk.at hr hn) j];exact hx
def Kb(b e Z:Nat)(W:World)(v:Value):Prop:=∃ns,Bc W (fun g=>b≤g∧g<e) ns v∧Pb ns∧Ar ns≤Z
theorem Kd.bd{b Z:Nat}{W:World}{v:Value}(h:Kd b Z W v):Kb b W.heap.size Z W v:=by
 obtain ⟨ns,h1,h2⟩:=h;exact ⟨ns,h1.bound,h2⟩
theorem Kb.step{b e Z:Nat}{W W':World}{v:Value}{fp:List Nat}(h:Kb b e Z W v)(hk:Ac fp W W')(hf:∀x∈fp,x<b∨e≤x):Kb b e Z W' v:=by
 obtain ⟨n,h1,h2⟩:=h;exact zpb
theorem Kb.kd{b e Z:Nat}{W:World}{v:Value}(h:Kb b e Z W v):Kd b Z W v:=by
 obtain ⟨n,h1,h2⟩:=h;exact ⟨n,h1.keep (Ac.refl [] W) qg (fun x hx=>hx.1),h2⟩
theorem TV(kd:Int)(nm:ByteArray)(a:Option Addr)(l c:Nat)(w:World):Calls Tryz.prog 32 #[.int .i64 kd,.string nm,.slice a l c] w fun r w'=>∃v,r= .returned v∧(v= .agg #[.int .i64 kd,.string nm,.float .f64 0,.slice a l c,.complex .f64 0 0]∧Ac [] w w'):=
 (ON kd nm a l c w).mono fun _ _ ⟨h1,h2⟩=>⟨_,h1,rfl,h2⟩
theorem Kd.low{b b' Z:Nat}{W:World}{v:Value}(h:Kd b Z W v)(hb:b'≤b):Kd b' Z W v:=by
 obtain ⟨ns,h1,h2,h3⟩:=h;exact ⟨ns,h1.keep (Ac.refl [] W) qg (fun x hx=>Nat.le_trans hb hx),h2,h3⟩
def CP(q:Nat):Int:= [5,5,5,6,6,1,2,7,3,4,5,2].getD q 0
theorem OE{q:Nat}(h:(q:Int)<12):CP q≤7:=(by decide:∀q,q<12→CP q≤7) q jh
theorem Lu{q:Nat}{w:World}(hq:(q:Int)<12):(Instr.index 79 (.agg #[.int .i64 5,.int .i64 5,.int .i64 5,.int .i64 6,.int .i64 6,.int .i64 1,.int .i64 2,.int .i64 7,.int .i64 3,.int .i64 4,.int .i64 5,.int .i64 2]) (.int .i64 q)).run Tryz.prog w= .ok (.int .i64 (CP q)) w:=by
 have hz:q=0∨q=1∨q=2∨q=3∨q=4∨q=5∨q=6∨q=7∨q=8∨q=9∨q=10∨q=11:=by omega
 rcases hz with rfl|rfl|rfl|rfl|rfl|rfl|rfl|rfl|rfl|rfl|rfl|rfl<;>rfl
attribute [local go_sem] Lu
def PgI(M:Bs)(w:World)(G:Nat)(g:Nat)(j:Value)(W:World):Prop:=
 ∃(i:Int) (m e J:Nat) (v:Value),j= .int .i64 i∧0≤i∧i+m≤4∧i+1≤g∧J≤1+m*4000000∧Pg M J false w W∧W.heap[G]? =some (.cells #[v,.slice none 0 0] 33 (0,0))∧BV (w.heap.size+3) e (m*24550) m W v∧e≤W.heap.size∧w.heap.size+3≤e
def RlI(M:Bs)(w:World)(G R J4:Nat)(kd:Int)(v:Value)(e m:Nat)(W:World):Prop:=
 ∃(n:Int) (pa:Option Addr) (pl pc J:Nat),J≤J4+2100∧Pg M J false w W∧W.heap[G]? =some (.cells #[v,.slice none 0 0] 33 (0,0))∧BV (w.heap.size+3) e (m*24550) m W v∧e≤R∧W.heap[R]? =some (.cells #[.int .i64 kd,.int .i64 n,.slice pa pl pc,.int .i64 0,.string ⟨#[]⟩,.float .f64 0,.slice none 0 0,.complex .f64 0 0,.complex .f64 0 0] 52 (0,0))∧Kd (R+1) 62 W (.slice pa pl pc)
theorem Aj{W W':World}{b F cp:Nat}{xs:List Value}{fp:List Nat}(h:W.ownsRow b 61 8 (.slice (some ⟨F,0,none⟩) 1 cp) 1 xs)(hk:Ac fp W W')(hF:F∉fp):W'.ownsRow b 61 8 (.slice (some ⟨F,0,none⟩) 1 cp) 1 xs:=
 Ge h fun g hg=>by
  have e:g=F:=by simp [Value.ownBlock] at hg;exact hg.symm
  subst e;exact hk.block g (Bf h).1 hF
theorem Yy{W W':World}{b F cp n:Nat}{xs:List Value}{fp:List Nat}(h:W.ownsRow b 61 8 (.slice (some ⟨F,0,none⟩) n cp) n xs)(hk:Ac fp W W')(hF:F∉fp):W'.ownsRow b 61 8 (.slice (some ⟨F,0,none⟩) n cp) n xs:=
 Ge h fun g hg=>by
  obtain ⟨cur,hc⟩:=Sh h hg;have e:g=F:=by simp [Value.ownBlock] at hg;exact hg.symm
  subst e;exact hk.block g (Ad hc) hF
theorem QX{M:Bs}{fn:Bool}{I:Nat}{w:World}(h:Bn M I fn w w)(hI:I+300040≤1000000000000):Calls Tryz.prog 31 #[.pointer (some ⟨M.k,0,none⟩),.int .i64 2] w fun r w'=>∃v,r= .returned v∧(∃a m c,m≤3∧v= .agg #[.int .i64 30,.string ⟨#[]⟩,.float .f64 0,.slice a m c,.complex .f64 0 0]∧Ow w.heap.size w'.heap.size 4062 m w' (.slice a m c)∧Lq M (I+300040) fn w'∧Ac [M.k] w w'):=
 (QZ h hI).mono fun r w' ⟨a,m,c,h1,h2,h3⟩=>⟨_,h2,a,m,c,h1,rfl,h3⟩
def FnA(M:Bs)(w:World)(G U0 J e m:Nat)(v:Value)(W:World):Prop:=
 ∃(P F cp bk ek bm bc J':Nat) (ba:Option Addr),J'≤J+300040∧Pg M J' true w W∧W.heap[G]? =some (.cells #[v,.slice (some ⟨F,0,none⟩) 1 cp] 33 (0,0))∧BV (w.heap.size+3) e (m*24550) m W v∧W.ownsRow (w.heap.size+3) 61 8 (.slice (some ⟨F,0,none⟩) 1 cp) 1 [.string ⟨#[102]⟩,.slice (some ⟨P,0,none⟩) 2 2,.int .i64 30,.string ⟨#[]⟩,.float .f64 0,.slice ba bm bc,.complex .f64 0 0,.complex .f64 0 0]∧
  W.heap[P]? =some (.cells #[.string ⟨#[112]⟩,.string ⟨#[113]⟩] 9 (0,0))∧Ow bk ek 4062 bm W (.slice ba bm bc)∧bm≤3∧U0≤bk∧bk≤ek∧ek≤F∧U0≤P∧P<F∧(P<bk∨ek≤P)
def FnB(M:Bs)(w:World)(G F cp P bk J' e m:Nat)(v:Value)(W:World):Prop:=
 ∃(ka:Option Addr) (km kc:Nat),Pg M J' true w W∧W.heap[G]? =some (.cells #[v,.slice (some ⟨F,0,none⟩) 1 cp] 33 (0,0))∧BV (w.heap.size+3) e (m*24550) m W v∧W.ownsRow (w.heap.size+3) 61 8 (.slice (some ⟨F,0,none⟩) 1 cp) 1 [.string ⟨#[102]⟩,.slice (some ⟨P,0,none⟩) 2 2,.int .i64 30,.string ⟨#[]⟩,.float .f64 0,.slice ka km kc,.complex .f64 0 0,.complex .f64 0 0]∧
  W.heap[P]? =some (.cells #[.string ⟨#[112]⟩,.string ⟨#[113]⟩] 9 (0,0))∧Kx bk F 4070 W (.slice ka km kc)
set_option maxHeartbeats 40000000 in
def Vr:{X:Prop//Tf X→∀(M:Bs),Qc M→∀(w:World),M.k=w.heap.size+1→M.w0=w→Calls Tryz.prog 14 #[.slice M.la M.ln M.lc] w fun r w'=>∃g v,r= .returned v∧Iu w' (fun x=>w.heap.size≤x) g v∧VT g∧Ac [] w w'}:=by
 apply Subtype.mk
 ·intro hX M hM w hk hw0;have HW:=zh hw0;have HKE:=zh hk
  go_enter Tryz.func14,Tryz.ntmps14
  go_upto_region 3 with fail
  refine Bj (fun W=>Ac [] w W∧W.heap[w.heap.size]? =some (.cells #[.slice none 0 0,.slice none 0 0] 33 (0,0))∧W.heap[w.heap.size+1]? =some (.cells #[.slice M.la M.ln M.lc,.int .i64 0,.int .i64 0,.bool false,.int .i64 0] 77 (0,0))∧W.heap[w.heap.size+2]? =some (.cells #[.slice none 0 0,.slice none 0 0] 33 (0,0))) ⟨jg,qe,qe,qe⟩ ?_;rintro w1 ⟨k1,c0,cm,cg⟩;rw [←hk] at cm⊢;have HP1:Hd (Pg M 0 false w w1):=zh ⟨hM,hk,⟨0,0,0,Nat.le_refl _,by omega,by omega,by omega,⟨cm,hw0▸k1⟩⟩,k1,c0⟩;obtain ⟨G,hG⟩:∃x,x=M.k+1:=⟨_,rfl⟩;rw [←hG];rw [show w.heap.size+2=G by omega] at cg;have HGE:Hd (G=w.heap.size+2):=zh jh;clear k1 c0 cm hk hG
  go_wp2_with fail
  refine (Je HP1.1.fix HP1.1.mak jh 4 jh jh).mono ?_;rintro r w2 ⟨y,h0_y,h1_y,rfl,hm,hk⟩;have HP2:=zh (HP1.1.call hm hk);have cg2:=hk.at cg zj;clear hk hm HP1 cg;have hyw:IntKind.i64.wrap (1+y)=1+y:=Ez jh jh
  go_wp2_with fail
  have hs2:=Ad cg2
  go_loopg [5] (5) (fun g j wr=>PgI M w G g j wr)
  case atStart=>exact ⟨1+y,0,w2.heap.size,_,_,rfl,by omega,by omega,by omega,by omega,HP2.1,cg2,by rw [Nat.zero_mul];exact BV.nil _ _ _,Nat.le_refl _,by have:=HGE.1;omega⟩
  clear cg2 HP2 hs2 h0_y h1_y hyw;obtain ⟨i,m,e,J,v,rfl,hi0,him,hig,hJ,hP,cG,hO,he,he3⟩:=hrel;have HP:=zh hP;have HO:=zh hO;have HEe:=zh he;have HE3:=zh he3;have HG:=zh cG;clear hP hO he he3 cG;obtain ⟨va,vc,rfl⟩:=HO.1.slice
  by_cases hlt:0<i
  ·have hiw:IntKind.i64.wrap (i -1)=i -1:=Ez jh jh;obtain ⟨i9,n9,l9,hi9,hn9,hl91,hl92,hm9⟩:=HP.1.mak;obtain ⟨l_k,xx⟩:=Bv hm9.row;have HM9:=zh hm9;clear hm9
   go_upto_region 7 with fail
   refine Bj (fun W=>Ac [M.k] wr W∧W.heap[M.k]? =some (.cells #[.slice M.la M.ln M.lc,.int .i64 i9,.int .i64 0,.bool false,.int .i64 l9] 77 (0,0))) ⟨jg,(jf HM9.1.row)⟩ ?_;rintro w3 ⟨hk3,hr3⟩;have HP3:Hd (Pg M J false w w3):=zh (HP.1.call ⟨i9,0,l9,hi9,by omega,hl91,hl92,HM9.1.upd HP.1.fix hk3 (by exact_mod_cast hr3)⟩ hk3);have HG3:=zh (hk3.at HG.1 zj);have HO3:=zh (HO.1.step hk3 zj);have HEe3:=zh (Nat.le_trans HEe.1 hk3.size);clear hk3 hr3 HP HG HO HEe HM9 hi9 hn9 hl91 hl92 l_k xx
   go_wp2_with fail
   refine (Qo HP3.1.fix HP3.1.mak jh 12 jh jh).mono ?_;rintro r w4 ⟨q,hq,rfl,hm,hk⟩;have HP4:=zh (HP3.1.call hm hk);have HG4:=zh (hk.at HG3.1 zj);have HO4:=zh (HO3.1.step hk zj);have HEe4:=zh (Nat.le_trans HEe3.1 hk.size);have hi_q:(q:Int)<12:=by omega
   clear hk hm HP3 HG3 HO3 HEe3
   go_upto_block 2 with fail
   refine Bj (fun W=>Ac [] w4 W∧W.heap[w4.heap.size]? =some (.cells #[.int .i64 (CP q),.int .i64 0,.slice none 0 0,.int .i64 0,.string ⟨#[]⟩,.float .f64 0,.slice none 0 0,.complex .f64 0 0,.complex .f64 0 0] 52 (0,0))) ⟨jg,qe⟩ ?_;rintro w5 ⟨hk,hr⟩;obtain ⟨kd,hkd⟩:∃z,z=CP q:=⟨_,rfl⟩;have HK7:=zh (show kd≤7 by rw [hkd];exact OE hi_q);obtain ⟨R,hR⟩:∃z,z=w4.heap.size:=⟨_,rfl⟩;rw [←hkd,←hR] at hr⊢;have HP5:=zh (HP4.1.kp hk qg);have HG5:=zh (hk.at HG4.1 qg);have HO5:=zh (HO4.1.step hk qg);have HeR:Hd (e≤R):=zh (by have:=HEe4.1;omega);have HRG:Hd (G<R):=zh (by rw [hR];exact Ad HG4.1);have HR5:=zh hr;have hR5s:=Ad hr;clear hkd hR;clear hk hr HP4 HG4 HO4 HEe4 hq hi_q
   go_cut [] (fun W=>RlI M w G R (J+1) kd (.slice va m vc) e m W)
   case first=>
    obtain ⟨lR,z0,z1,z2,z3,z4,z5,z6,z7,z8,f0,f1,f2,f3,f4,f5,f6,f7,f8⟩:=BI HR5.1
    by_cases k6:kd=6
    ·subst k6
     go_wp2_with fail
     refine (Mj _ _ HP5.1.here jh).mono ?_;rintro r w6 ⟨v1,rfl,hn1,hm,hk⟩;obtain ⟨k1,nm1,nu1,a1,l1,c1,re1,im1,rfl⟩:=hn1.shape;have HP6:=zh (HP5.1.call hm hk);have HG6:=zh (hk.at HG5.1 zj);have HO6:=zh (HO5.1.step hk zj);have HR6:=zh (hk.at HR5.1 qj);clear hk hm z0 z1 z2 z3 z4 z5 z6 z7 z8 f0 f1 f2 f3 f4 f5 f6 f7 f8;have lR5:=lR;clear lR;obtain ⟨lR,z0,z1,z2,z3,z4,z5,z6,z7,z8,f0,f1,f2,f3,f4,f5,f6,f7,f8⟩:=BI HR6.1
     go_wp2_with fail
     go_meet
     refine Ch (fun W=>Ac [R] w6 W∧W.heap[R]? =some (.cells #[.int .i64 6,.int .i64 0,.slice (some ⟨w6.heap.size,0,none⟩) 1 1,.int .i64 0,.string ⟨#[]⟩,.float .f64 0,.slice none 0 0,.complex .f64 0 0,.complex .f64 0 0] 52 (0,0))∧W.heap[w6.heap.size]? =some (.cells #[.int .i64 k1,.string nm1,.float .f64 nu1,.slice a1 l1 c1,.complex .f64 re1 im1] 50 (0,0))) ⟨jg,(qf HR6.1 ((Nat.ne_of_lt lR)) ((Nat.ne_of_gt lR))),(zg ((Nat.ne_of_lt lR)) ((Nat.ne_of_gt lR)))⟩ ?_;rintro w7 ⟨hk,hr,hc⟩;exact ⟨0,_,_,_,_,by omega,HP6.1.kp hk qn,hk.at HG6.1 qn,HO6.1.step hk js,HeR.1,hr,(Kd.row1 hc jh (((hn1.to jh (Nat.le_refl _)).step hk qg))).to' jh⟩
    by_cases k7:kd=7
    ·subst k7
     go_wp2_with fail
     refine (Mj _ _ HP5.1.here jh).mono ?_;rintro r w6 ⟨v1,rfl,hn1,hm,hk⟩;obtain ⟨k1,nm1,nu1,a1,l1,c1,re1,im1,rfl⟩:=hn1.shape;have HP6:=zh (HP5.1.call hm hk);have HG6:=zh (hk.at HG5.1 zj);have HO6:=zh (HO5.1.step hk zj);have HR6:=zh (hk.at HR5.1 qj);have hs6:=hk.size;clear hk hm
     go_wp2_with fail
     refine (Mj _ _ HP6.1.here jh).mono ?_;rintro r w7 ⟨v2,rfl,hn2,hm,hk⟩;obtain ⟨k2,nm2,nu2,a2,l2,c2,re2,im2,rfl⟩:=hn2.shape;have HP7:=zh (HP6.1.call hm hk);have HG7:=zh (hk.at HG6.1 zj);have HO7:=zh (HO6.1.step hk zj);have HR7:=zh (hk.at HR6.1 qj);have hn3:=(hn1.to (b':=R+1) jh (Nat.le_refl _)).step hk qj;clear hk hm z0 z1 z2 z3 z4 z5 z6 z7 z8 f0 f1 f2 f3 f4 f5 f6 f7 f8 HP6 HG6 HO6 HR6 hn1;have lR5:=lR;clear lR;obtain ⟨lR,z0,z1,z2,z3,z4,z5,z6,z7,z8,f0,f1,f2,f3,f4,f5,f6,f7,f8⟩:=BI HR7.1
     go_wp2_with fail
     go_meet
     refine Ch (fun W=>Ac [R] w7 W∧W.heap[R]? =some (.cells #[.int .i64 7,.int .i64 0,.slice (some ⟨w7.heap.size,0,none⟩) 2 2,.int .i64 0,.string ⟨#[]⟩,.float .f64 0,.slice none 0 0,.complex .f64 0 0,.complex .f64 0 0] 52 (0,0))∧W.heap[w7.heap.size]? =some (.cells #[.int .i64 k1,.string nm1,.float .f64 nu1,.slice a1 l1 c1,.complex .f64 re1 im1,.int .i64 k2,.string nm2,.float .f64 nu2,.slice a2 l2 c2,.complex .f64 re2 im2] 50 (0,0))) ⟨jg,(qf HR7.1 ((Nat.ne_of_lt lR)) ((Nat.ne_of_gt lR))),(zg ((Nat.ne_of_lt lR)) ((Nat.ne_of_gt lR)))⟩ ?_;rintro w8 ⟨hk,hr,hc⟩;exact ⟨0,_,_,_,_,by omega,HP7.1.kp hk qn,hk.at HG7.1 qn,HO7.1.step hk js,HeR.1,hr,(Kd.row2 hc jh (hn3.step hk qg) ((hn2.to jh (Nat.le_refl _)).step hk qg)).to' jh⟩
    by_cases k3:kd=3
    ·subst k3
     go_wp2_with fail
     refine (Je HP5.1.fix HP5.1.mak jh 20 jh jh).mono ?_;rintro r w6 ⟨y,h0_y,h1_y,rfl,hm,hk⟩;have HP6:=zh (HP5.1.call hm hk);have HG6:=zh (hk.at HG5.1 zj);have HO6:=zh (HO5.1.step hk zj);have HR6:=zh (hk.at HR5.1 qj);have hyw:IntKind.i64.wrap (1+y)=1+y:=Ez jh jh;clear hk hm lR z0 z1 z2 z3 z4 z5 z6 z7 z8 f0 f1 f2 f3 f4 f5 f6 f7 f8;obtain ⟨lR,z0,z1,z2,z3,z4,z5,z6,z7,z8,f0,f1,f2,f3,f4,f5,f6,f7,f8⟩:=BI HR6.1
     go_wp2_with fail
     go_meet
     refine Ch (fun W=>Ac [R] w6 W∧W.heap[R]? =some (.cells #[.int .i64 3,.int .i64 (1+y),.slice none 0 0,.int .i64 0,.string ⟨#[]⟩,.float .f64 0,.slice none 0 0,.complex .f64 0 0,.complex .f64 0 0] 52 (0,0))) ⟨jg,(jf HR6.1)⟩ ?_;rintro w7 ⟨hk,hr⟩;exact ⟨1+y,_,_,_,_,by omega,HP6.1.kp hk qn,hk.at HG6.1 qn,HO6.1.step hk js,HeR.1,hr,(Kd.nil _ _).to' jh⟩
    have e6:(kd==6)=false:=beq_false_of_ne k6;have e7:(kd==7)=false:=beq_false_of_ne k7;have e3:(kd==3)=false:=beq_false_of_ne k3
    go_wp2_with fail
    go_meet
    case rel=>exact ⟨0,_,_,_,_,by omega,HP5.1,HG5.1,HO5.1,HeR.1,HR5.1,(Kd.nil _ _).to' jh⟩
   obtain ⟨n,pa,pl,pc,J6,hJ6,hP,cG,hO,-,cR,hKd⟩:=hcut;have HP6:=zh hP;have HG6:=zh cG;have HO6:=zh hO;have HR6:=zh cR;have HKp:=zh hKd.bd;clear hP cG hO cR hKd HP5 HG5 HO5 HR5;generalize wc=w6 at*
   rename_i hh;obtain ⟨lR,z0,z1,z2,z3,z4,z5,z6,z7,z8,f0,f1,f2,f3,f4,f5,f6,f7,f8⟩:=BI HR6.1
   go_wp2_with fail
   refine (QY HP6.1.here jh).mono ?_;rintro r w7 ⟨ba,bm,bc,hbm,rfl,hob,hm,hk⟩;have HP7:=zh (HP6.1.call hm hk);have HG7:=zh (hk.at HG6.1 zj);have HO7:=zh (HO6.1.step hk zj);have HR7:=zh (hk.at HR6.1 qj);have HKp7:=zh (HKp.1.step hk qj);have HOb7:=zh hob;have hb6:R+1≤w6.heap.size:=lR;have s67:=hk.size;clear hk hm hob z0 z1 z2 z3 z4 z5 z6 z7 z8 f0 f1 f2 f3 f4 f5 f6 f7 f8 lR HP6 HG6 HO6 HR6 HKp;obtain ⟨lR,z0,z1,z2,z3,z4,z5,z6,z7,z8,f0,f1,f2,f3,f4,f5,f6,f7,f8⟩:=BI HR7.1
   go_upto_region 16 with fail
   refine Bj (fun W=>Ac [R] w7 W∧W.heap[R]? =some (.cells #[.int .i64 kd,.int .i64 n,.slice pa pl pc,.int .i64 30,.string ⟨#[]⟩,.float .f64 0,.slice ba bm bc,.complex .f64 0 0,.complex .f64 0 0] 52 (0,0))) ⟨jg,(jf HR7.1)⟩ ?_;rintro w8 ⟨hk,hr⟩;have HS6:Hd (w6.heap.size≤w8.heap.size):=zh (Nat.le_trans s67 hk.size);clear s67;have HP:=zh (HP7.1.kp hk qn);have HG:=zh (hk.at HG7.1 (by have:=HRG.1;simp;omega));have HO:=zh (HO7.1.step hk js);have HR:=zh hr;have HKp:=zh (HKp7.1.step hk qg);have HOb:=zh ((HOb7.1.step hk qi).low (b':=w6.heap.size) (Nat.le_refl _) hk.size (Nat.le_refl _));clear hk hr z0 z1 z2 z3 z4 z5 z6 z7 z8 f0 f1 f2 f3 f4 f5 f6 f7 f8 lR HP7 HG7 HO7 HR7 HKp7 HOb7;obtain ⟨lR,z0,z1,z2,z3,z4,z5,z6,z7,z8,f0,f1,f2,f3,f4,f5,f6,f7,f8⟩:=BI HR.1;clear z1 z2 z3 z4 z5 z6 z7 z8 f0 f1 f2 f3 f4 f5 f6 f7 f8
   by_cases k5:5≤kd
   ·go_wp2_with fail
    refine (Je HP.1.fix HP.1.mak jh 9 jh jh).mono ?_;rintro r w9 ⟨y,h0_y,h1_y,rfl,hm,hk⟩;replace HP:=zh (HP.1.call hm hk);replace HG:=zh (hk.at HG.1 zj);replace HO:=zh (HO.1.step hk zj);replace HR:=zh (hk.at HR.1 qj);replace HKp:=zh (HKp.1.step hk qj);replace HOb:=zh ((HOb.1.step hk qj).low (Nat.le_refl _) hk.size (Nat.le_refl _));replace HS6:=zh (Nat.le_trans HS6.1 hk.size);clear hk hm lR z0 h0_y h1_y
    by_cases hy0:y=0
    ·subst hy0;have lb:=Ad HR.1;have HZ:Hd (w9.heap.size≤w9.heap.size):=zh (Nat.le_refl _)
     go_wp2_with fail
     refine Ck (n:=14) (S:=fun V=>V.cell? ⟨R,6,none⟩=some (.slice ba bm bc)) (st:=47) (p:= .tmp 71) (v:= .tmp 69) qh qh qh rfl (Bg (W:=w9) (fp:= []) (by exact kD (k0 [] w9)) HR.1 rfl qg) ?_;intro Rq hR1 hR3 hSS;refine WC ?_;refine Bw (fun V=>Ac [] w9 V∧V.cell? ⟨R,6,none⟩=some (.slice ba bm bc)) ⟨(by exact kD (k0 [] w9)),hSS⟩ ?_;clear hSS;rintro w101 ⟨hk,hSS⟩;replace HP:=zh (HP.1.kp hk qg);replace HG:=zh (hk.at HG.1 qg);replace HO:=zh (HO.1.step hk qg);replace HR:=zh (hk.at HR.1 qg);replace HKp:=zh (HKp.1.step hk qg);replace HOb:=zh (HOb.1.step hk qg);replace HZ:=zh (Nat.le_trans HZ.1 hk.size);clear hk;refine VX ?_;refine Ej ?_;refine WB ?_;refine Ej ?_;refine YT ?_;refine Ej ?_;refine WK ?_;refine Ej ?_;refine VW ?_;refine Ej ?_;refine wpAnyH_ready (rs:= [4,6]) qh qg ?_;refine AllReadyH.cons rfl (fun K hK=> ?_) (AllReadyH.cons rfl (fun K hK=> ?_) AllReadyH.nil)
     ·refine qed ?_;rintro v w102 ⟨hn,hm,hk⟩;obtain ⟨k1,nm1,nu1,a1,l1,c1,re1,im1,rfl⟩:=hn.shape;have HX:Hd (Nd w9.heap.size 10 w102 (.agg #[.int .i64 k1,.string nm1,.float .f64 nu1,.slice a1 l1 c1,.complex .f64 re1 im1])):=zh (hn.to HZ.1 (Nat.le_refl _));replace HP:=zh (HP.1.call hm hk);replace HG:=zh (hk.at HG.1 zj);replace HO:=zh (HO.1.step hk zj);replace HR:=zh (hk.at HR.1 qj);replace HKp:=zh (HKp.1.step hk qj);replace HOb:=zh (HOb.1.step hk qj);replace HZ:=zh (Nat.le_trans HZ.1 hk.size);refine hK.out _ _ (Bg (W:=w102) (fp:= []) (Ac.refl [] _) HR.1 rfl qg) (fun hSS=> ?_);clear hK hn hm hk;refine Gv ?_;refine WL ?_;refine AllReadyH.cons rfl (fun K hK=> ?_) AllReadyH.nil;have HLHS1:Hd (w9.heap.size≤w102.heap.size):=HZ
      go_simp
      refine hK.out _ _ (Bg (W:=w102) (fp:= []) jg HR.1 rfl qg) (fun hSS=> ?_);clear hK;refine Gv ?_;refine Bw (fun V=>Ac [] w102 V∧V.heap[w102.heap.size]? =some (.cells #[.int .i64 38,.string ⟨#[]⟩,.float .f64 0,.slice none 0 0,.complex .f64 0 0] 50 (0,0))∧V.cell? ⟨R,6,none⟩=some (.slice ba bm bc)) ⟨jg,qe,hSS⟩ ?_;clear hSS;rintro w103 ⟨hk,hr,hSS⟩;replace HP:=zh (HP.1.kp hk qg);replace HG:=zh (hk.at HG.1 qg);replace HO:=zh (HO.1.step hk qg);replace HR:=zh (hk.at HR.1 qg);replace HKp:=zh (HKp.1.step hk qg);replace HOb:=zh (HOb.1.step hk qg);replace HZ:=zh (Nat.le_trans HZ.1 hk.size);replace HX:=zh (HX.1.step hk qg);have HS1:=zh hr;clear hk hr;refine YY ?_;refine Ej ?_;refine YR ?_;refine AllReadyH.cons rfl (fun K hK=> ?_) AllReadyH.nil;have HLHS2:Hd (w9.heap.size≤w103.heap.size):=HZ
      go_simp
      refine hK.out _ _ (Bg (W:=w103) (fp:= []) jg HR.1 rfl qg) (fun hSS=> ?_);clear hK;refine Gv ?_;refine Bw (fun V=>Ac [] w103 V∧V.heap[w103.heap.size]? =some (.cells #[.int .i64 k1,.string nm1,.float .f64 nu1,.slice a1 l1 c1,.complex .f64 re1 im1,.int .i64 30,.string ⟨#[]⟩,.float .f64 0,.slice (some ⟨w102.heap.size,0,none⟩) 1 1,.complex .f64 0 0] 50 (0,0))∧V.cell? ⟨R,6,none⟩=some (.slice ba bm bc)) ⟨jg,qe,hSS⟩ ?_;clear hSS;rintro w104 ⟨hk,hr,hSS⟩;replace HP:=zh (HP.1.kp hk qg);replace HG:=zh (hk.at HG.1 qg);replace HO:=zh (HO.1.step hk qg);replace HR:=zh (hk.at HR.1 qg);replace HKp:=zh (HKp.1.step hk qg);replace HOb:=zh (HOb.1.step hk qg);replace HZ:=zh (Nat.le_trans HZ.1 hk.size);replace HX:=zh (HX.1.step hk qg);replace HS1:=zh (hk.at HS1.1 qg);have HS2:=zh hr;clear hk hr;refine XG ?_;refine AllReadyH.cons rfl (fun K hK=> ?_) AllReadyH.nil;have HB1:Hd (Nd w9.heap.size 2 w104 (.agg #[.int .i64 30,.string ⟨#[]⟩,.float .f64 0,.slice (some ⟨w102.heap.size,0,none⟩) 1 1,.complex .f64 0 0])):=zh ((Kd.row1 HS1.1 HLHS1.1 (Nd.leaf _ _ _ _ _ _ _)).mk zi);have HI:Hd (Nd w9.heap.size 13 w104 (.agg #[.int .i64 31,.string ⟨#[]⟩,.float .f64 0,.slice (some ⟨w103.heap.size,0,none⟩) 2 2,.complex .f64 0 0])):=zh ((Kd.row2 HS2.1 HLHS2.1 HX.1 HB1.1).mk zi);clear HB1 HX HS1 HS2
      refine Bd (f:=32) (vals:= #[.int .i64 31,.string ⟨#[]⟩,.slice (some ⟨w103.heap.size,0,none⟩) 2 2]) rfl _ rfl qh (TV _ _ _ _ _ _) ?_;rintro v w105 ⟨rfl,hk⟩;replace HP:=zh (HP.1.kp hk qg);replace HG:=zh (hk.at HG.1 qg);replace HO:=zh (HO.1.step hk qg);replace HR:=zh (hk.at HR.1 qg);replace HKp:=zh (HKp.1.step hk qg);replace HOb:=zh (HOb.1.step hk qg);replace HZ:=zh (Nat.le_trans HZ.1 hk.size);replace HI:=zh (HI.1.step hk qg);refine hK.out _ _ (Bg (W:=w105) (fp:= []) (Ac.refl [] _) HR.1 rfl qg) (fun hSS=> ?_);clear hK hk;refine Gv ?_;refine YP ?_;refine AllReadyH.cons rfl (fun K hK=> ?_) AllReadyH.nil;have HLHS3:Hd (w9.heap.size≤w105.heap.size):=HZ
      go_simp
      refine hK.out _ _ (Bg (W:=w105) (fp:= []) jg HR.1 rfl qg) (fun hSS=> ?_);clear hK;refine Gv ?_;refine Bw (fun V=>Ac [] w105 V∧V.heap[w105.heap.size]? =some (.cells #[.int .i64 31,.string ⟨#[]⟩,.float .f64 0,.slice (some ⟨w103.heap.size,0,none⟩) 2 2,.complex .f64 0 0] 50 (0,0))∧V.cell? ⟨R,6,none⟩=some (.slice ba bm bc)) ⟨jg,qe,hSS⟩ ?_;clear hSS;rintro w106 ⟨hk,hr,hSS⟩;exact jod
     have HLHS1:Hd (w9.heap.size≤w101.heap.size):=HZ
     go_simp
     refine hK.out _ _ (Bg (W:=w101) (fp:= []) jg HR.1 rfl qg) (fun hSS=> ?_);clear hK;refine Gv ?_;refine Bw (fun V=>Ac [] w101 V∧V.heap[w101.heap.size]? =some (.cells #[.int .i64 38,.string ⟨#[]⟩,.float .f64 0,.slice none 0 0,.complex .f64 0 0] 50 (0,0))∧V.cell? ⟨R,6,none⟩=some (.slice ba bm bc)) ⟨jg,qe,hSS⟩ ?_;clear hSS;rintro w107 ⟨hk,hr,hSS⟩;replace HP:=zh (HP.1.kp hk qg);replace HG:=zh (hk.at HG.1 qg);replace HO:=zh (HO.1.step hk qg);replace HR:=zh (hk.at HR.1 qg);replace HKp:=zh (HKp.1.step hk qg);replace HOb:=zh (HOb.1.step hk qg);replace HZ:=zh (Nat.le_trans HZ.1 hk.size);have HS1:=zh hr;clear hk hr;refine YY ?_;refine Ej ?_;refine wpAnyH_ready (rs:= [4]) qh qg ?_;refine AllReadyH.cons rfl (fun K hK=> ?_) AllReadyH.nil;refine qed ?_;rintro v w108 ⟨hn,hm,hk⟩;obtain ⟨k1,nm1,nu1,a1,l1,c1,re1,im1,rfl⟩:=hn.shape;have HX:Hd (Nd w9.heap.size 10 w108 (.agg #[.int .i64 k1,.string nm1,.float .f64 nu1,.slice a1 l1 c1,.complex .f64 re1 im1])):=zh (hn.to HZ.1 (Nat.le_refl _));replace HP:=zh (HP.1.call hm hk);replace HG:=zh (hk.at HG.1 zj);replace HO:=zh (HO.1.step hk zj);replace HR:=zh (hk.at HR.1 qj);replace HKp:=zh (HKp.1.step hk qj);replace HOb:=zh (HOb.1.step hk qj);replace HZ:=zh (Nat.le_trans HZ.1 hk.size);replace HS1:=zh (hk.at HS1.1 (by have:=HLHS1.1;have:=HKE.1;have:=HGE.1;have:=HRG.1;simp;omega))
     refine hK.out _ _ (Bg (W:=w108) (fp:= []) (Ac.refl [] _) HR.1 rfl qg) (fun hSS=> ?_);clear hK hn hm hk;refine Gv ?_;refine YR ?_;refine AllReadyH.cons rfl (fun K hK=> ?_) AllReadyH.nil;have HLHS2:Hd (w9.heap.size≤w108.heap.size):=HZ
     go_simp
     refine hK.out _ _ (Bg (W:=w108) (fp:= []) jg HR.1 rfl qg) (fun hSS=> ?_);clear hK;refine Gv ?_;refine Bw (fun V=>Ac [] w108 V∧V.heap[w108.heap.size]? =some (.cells #[.int .i64 k1,.string nm1,.float .f64 nu1,.slice a1 l1 c1,.complex .f64 re1 im1,.int .i64 30,.string ⟨#[]⟩,.float .f64 0,.slice (some ⟨w101.heap.size,0,none⟩) 1 1,.complex .f64 0 0] 50 (0,0))∧V.cell? ⟨R,6,none⟩=some (.slice ba bm bc)) ⟨jg,qe,hSS⟩ ?_;clear hSS;rintro w109 ⟨hk,hr,hSS⟩;replace HP:=zh (HP.1.kp hk qg);replace HG:=zh (hk.at HG.1 qg);replace HO:=zh (HO.1.step hk qg);replace HR:=zh (hk.at HR.1 qg);replace HKp:=zh (HKp.1.step hk qg);replace HOb:=zh (HOb.1.step hk qg);replace HZ:=zh (Nat.le_trans HZ.1 hk.size);replace HS1:=zh (hk.at HS1.1 qg);replace HX:=zh (HX.1.step hk qg);have HS2:=zh hr;clear hk hr;refine XG ?_;refine AllReadyH.cons rfl (fun K hK=> ?_) AllReadyH.nil;have HB1:Hd (Nd w9.heap.size 2 w109 (.agg #[.int .i64 30,.string ⟨#[]⟩,.float .f64 0,.slice (some ⟨w101.heap.size,0,none⟩) 1 1,.complex .f64 0 0])):=zh ((Kd.row1 HS1.1 HLHS1.1 (Nd.leaf _ _ _ _ _ _ _)).mk zi);have HI:Hd (Nd w9.heap.size 13 w109 (.agg #[.int .i64 31,.string ⟨#[]⟩,.float .f64 0,.slice (some ⟨w108.heap.size,0,none⟩) 2 2,.complex .f64 0 0])):=zh ((Kd.row2 HS2.1 HLHS2.1 HX.1 HB1.1).mk zi);clear HB1 HX HS1 HS2
     refine Bd (f:=32) (vals:= #[.int .i64 31,.string ⟨#[]⟩,.slice (some ⟨w108.heap.size,0,none⟩) 2 2]) rfl _ rfl qh (TV _ _ _ _ _ _) ?_;rintro v w110 ⟨rfl,hk⟩;replace HP:=zh (HP.1.kp hk qg);replace HG:=zh (hk.at HG.1 qg);replace HO:=zh (HO.1.step hk qg);replace HR:=zh (hk.at HR.1 qg);replace HKp:=zh (HKp.1.step hk qg);replace HOb:=zh (HOb.1.step hk qg);replace HZ:=zh (Nat.le_trans HZ.1 hk.size);replace HI:=zh (HI.1.step hk qg);refine hK.out _ _ (Bg (W:=w110) (fp:= []) (Ac.refl [] _) HR.1 rfl qg) (fun hSS=> ?_);clear hK hk;refine Gv ?_;refine YP ?_;refine AllReadyH.cons rfl (fun K hK=> ?_) AllReadyH.nil;have HLHS3:Hd (w9.heap.size≤w110.heap.size):=HZ
     go_simp
     refine hK.out _ _ (Bg (W:=w110) (fp:= []) jg HR.1 rfl qg) (fun hSS=> ?_);clear hK;refine Gv ?_;refine Bw (fun V=>Ac [] w110 V∧V.heap[w110.heap.size]? =some (.cells #[.int .i64 31,.string ⟨#[]⟩,.float .f64 0,.slice (some ⟨w108.heap.size,0,none⟩) 2 2,.complex .f64 0 0] 50 (0,0))∧V.cell? ⟨R,6,none⟩=some (.slice ba bm bc)) ⟨jg,qe,hSS⟩ ?_;clear hSS;rintro w111 ⟨hk,hr,hSS⟩;exact jod
    have hy:(y==0)=false:=beq_false_of_ne hy0;have HKb:Hd (Kd (R+1) 24487 w9 (.slice ba bm bc)):=zh ((HOb.1.kids.low hb6).to' jh);have HRl:Hd (Rl (R+1) 24550 w9 [.int .i64 kd,.int .i64 n,.slice pa pl pc,.int .i64 30,.string ⟨#[]⟩,.float .f64 0,.slice ba bm bc,.complex .f64 0 0,.complex .f64 0 0]):=zh (Rl.mk HK7.1 HKp.1.kd (HKb.1.mk zi));obtain ⟨lR,z0,z1,z2,z3,z4,z5,z6,z7,z8,f0,f1,f2,f3,f4,f5,f6,f7,f8⟩:=BI HR.1;obtain ⟨lG,gg⟩:=Ki HG.1
    go_wp2_with (
     at_builtin
     go_loud (
      refine Hz (fun V=>Ac [] w9 V∧V.heap[w9.heap.size]? =some (.cells #[.int .i64 kd,.int .i64 n,.slice pa pl pc,.int .i64 30,.string ⟨#[]⟩,.float .f64 0,.slice ba bm bc,.complex .f64 0 0,.complex .f64 0 0] 52 (0,0))) ⟨jg,qe⟩ ?_;rintro wq ⟨hk,hr⟩;have HPq:=zh (HP.1.kp hk qg);have HGq:=zh (hk.at HG.1 qg);refine BM rfl (.tmp 73) (.tmp 75) rfl rfl rfl (HO.1.step hk qg) hr (HRl.1.step hk qg) zcb zv HE3.1 jh ?_))
    exact zce
   clear lR z0;have HKb:Hd (Kd (R+1) 24487 w8 (.slice ba bm bc)):=zh ((HOb.1.kids.low hb6).to' jh);have HRl:Hd (Rl (R+1) 24550 w8 [.int .i64 kd,.int .i64 n,.slice pa pl pc,.int .i64 30,.string ⟨#[]⟩,.float .f64 0,.slice ba bm bc,.complex .f64 0 0,.complex .f64 0 0]):=zh (Rl.mk HK7.1 HKp.1.kd (HKb.1.mk zi));obtain ⟨lR,z0,z1,z2,z3,z4,z5,z6,z7,z8,f0,f1,f2,f3,f4,f5,f6,f7,f8⟩:=BI HR.1;obtain ⟨lG,gg⟩:=Ki HG.1
   go_wp2_with (
    at_builtin
    go_loud (
     refine Hz (fun V=>Ac [] w8 V∧V.heap[w8.heap.size]? =some (.cells #[.int .i64 kd,.int .i64 n,.slice pa pl pc,.int .i64 30,.string ⟨#[]⟩,.float .f64 0,.slice ba bm bc,.complex .f64 0 0,.complex .f64 0 0] 52 (0,0))) ⟨jg,qe⟩ ?_;rintro wq ⟨hk,hr⟩;have HPq:=zh (HP.1.kp hk qg);have HGq:=zh (hk.at HG.1 qg);refine BM rfl (.tmp 73) (.tmp 75) rfl rfl rfl (HO.1.step hk qg) hr (HRl.1.step hk qg) zcb zv HE3.1 jh ?_))
   exact zce
  rename_i Qz Kz1 az2 Jz Kz az1 az
  revert M w Kz1 Kz w1 G w2 y gk wr u6 u13 u14 u15 u16 u17 u18 u19 u20 u21 u22 u23 u24 u25 u26 u27 u28 u29 u30 u31 u32 u33 u34 u35 u36 u37 u38 u39 u40 u41 u42 u43 u44 u45 u46 u47 u48 u49 u50 u51 u52 u53 u54 u55 u56 u57 u58 u59 u60 u61 u62 u63 u64 u65 u66 u67 u68 u69 u70 u71 u72 u73 u74 u75 u76 u77 Jz i m e J va vc
  exact Tf.out hX
end Go.Proofs.YtkfillfkbhbbjaaGreatDoor
