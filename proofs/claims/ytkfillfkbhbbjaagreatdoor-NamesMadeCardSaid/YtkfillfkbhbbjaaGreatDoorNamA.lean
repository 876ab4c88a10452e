/- MkO, MkP, DY0, PrgD, PrgE, NamA. -/
import Derived.Test.YtkfillfkbhbbjaaGreatDoorMkJ
import Derived.Test.YtkfillfkbhbbjaaGreatDoorMkM
import Derived.Test.YtkfillfkbhbbjaaGreatDoorMkN
import Derived.Test.YtkfillfkbhbbjaaGreatDoorMkG
import Derived.Test.YtkfillfkbhbbjaaGreatDoorDLawB
import Derived.Test.YtkfillfkbhbbjaaGreatDoorMkC
import Derived.Test.YtkfillfkbhbbjaaGreatDoorPLb
set_option maxRecDepth 100000
set_option maxHeartbeats 4000000
set_option linter.unusedSimpArgs false
set_option linter.unusedVariables false
namespace Go.Proofs.YtkfillfkbhbbjaaGreatDoor
open Go.RowKit
set_option maxHeartbeats 8000000 in
theorem XN{M:Bs}{I:Nat}{fn:Bool}{w:World}(h:Bn M I fn w w){d:Int}(hd0:d≤0)(hI:I+7≤1000000000000):Calls Tryz.prog 30 #[.pointer (some ⟨M.k,0,none⟩),.int .i64 d] w fun r w'=>Gc M 2 7 I fn w r w':=by
 go_enter Tryz.func30,Tryz.ntmps30
 have H0:=zh h;clear h;obtain ⟨i,nn,l,hi,hn,hl1,hl2,hmk⟩:=H0.1.mak;obtain ⟨l_k,x0,x1,x2,x3,x4,y0,y1,y2,y3,y4⟩:=Bv hmk.row;have HMK:=zh hmk;have hnk:M.k≠w.heap.size:=Nat.ne_of_lt l_k;clear hmk;have hnw:IntKind.i64.wrap ((nn:Int)+1)=((nn+1:Nat):Int):=by rw [Ez jh jh];omega
 go_upto_region 2 with fail
 refine jxb ?_;rintro w1 ⟨hk,hr,hz⟩;have HB:ST M (I+1) fn w w1 []:=BnR.st ⟨H0.1.call ⟨i,nn+1,l,by omega,by omega,by omega,by omega,HMK.1.upd H0.1.fix hk hr⟩ hk,hz⟩;clear x0 x1 x2 x3 x4 y0 y1 y2 y3 y4 l_k hk hz HMK H0 hi hn hl1 hl2;obtain ⟨l_k,x0,x1,x2,x3,x4,y0,y1,y2,y3,y4⟩:=Bv hr;clear hr x0 x1 x3 x4 y0 y1 y2 y3 y4;have e0:decide (d≤0)=true:=by simp [hd0]
 go_wp2_with fail
 exact YZ
set_option maxHeartbeats 8000000 in
theorem WO{M:Bs}{I:Nat}{fn:Bool}{w:World}(h:Bn M I fn w w){d:Int}(hd0:d≤0){Z1 K1:Nat}(h1:Eu 89 M fn 1 Z1 K1)(hI:I+(K1+1)≤1000000000000):Calls Tryz.prog 58 #[.pointer (some ⟨M.k,0,none⟩),.int .i64 d] w fun r w'=>Gc M Z1 (K1+1) I fn w r w':=by
 go_enter Tryz.func58,Tryz.ntmps58
 go_upto_region 1 with fail
 refine zzb ?_;rintro w1 ⟨hk,hr⟩;have HB:=(BnR.start h hk hr).st;clear hk hr h;obtain ⟨i,nn,l,hi,hn,hl1,hl2,hmk⟩:=HB.mak;obtain ⟨l_k,x0,x1,x2,x3,x4,y0,y1,y2,y3,y4⟩:=Bv hmk.row;clear hmk x0 x1 x3 x4 y0 y1 y2 y3 y4 hi hn hl1 hl2;have e0:decide (d≤0)=true:=by simp [hd0]
 exact zme
section
variable {M:Bs} {fn:Bool}
theorem Uu{d:Int}(hd:d≤0):Ro M fn d 2 7:=fun _ _ h hI=>XN h hd hI
theorem Wf{d:Int}(hd: -1000≤d∧d≤1000){Z K:Nat}(hE:Ro M fn (d -1) Z K):Zz M fn d (Z+3) (K+10):=fun _ _ h hI=>OU h hd hE hI
theorem TZ:Zz M fn 0 5 17:=Wf jh (Uu jh)
theorem IV:Zz M fn 1 5 17:=Wf jh (Uu jh)
theorem QU:GY M fn 0 10 71:=fun _ _ h hI=>Zw h (Uu jh) TZ jh jh hI
theorem Qx:Ro M fn 1 10 149:=fun _ _ h hI=>EA h jh (Uu jh) IV QU jh jh hI
theorem TY:Zz M fn 2 13 159:=Wf jh Qx
theorem QT:GY M fn 1 24 355:=fun _ _ h hI=>Zw h Qx IV jh jh hI
theorem Mj:Ro M fn 2 31 1001:=fun _ _ h hI=>EA h jh Qx TY QT jh jh hI
theorem Up:Eu 89 M fn 1 31 487:=fun _ _ h hI=>Vi h Qx jh jh hI
theorem AJ:Eu 89 M fn 2 94 3043:=fun _ _ h hI=>Vi h Mj jh jh hI
theorem SL:Eu 58 M fn 0 31 488:=fun _ _ h hI=>WO h jh Up hI
theorem EN:Eu 31 M fn 0 94 1504:=fun _ _ h hI=>Te h SL jh jh hI
theorem UC:Eu 90 M fn 0 94 1514:=fun _ _ h hI=>Wg h EN jh jh hI
theorem SK:Eu 58 M fn 1 220 10000:=fun _ _ h hI=>Vd h jh Mj Up AJ EN UC jh jh hI
theorem EM:Eu 31 M fn 1 661 30040:=fun _ _ h hI=>Te h SK jh jh hI
theorem UB:Eu 90 M fn 1 661 30050:=fun _ _ h hI=>Wg h EM jh jh hI
theorem IC:Eu 58 M fn 2 1354 100000:=fun _ _ h hI=>Vd h jh Mj Up AJ EM UB jh jh hI
theorem EL:Eu 31 M fn 2 4063 300040:=fun _ _ h hI=>Te h IC jh jh hI
theorem UA:Eu 90 M fn 2 4063 300050:=fun _ _ h hI=>Wg h EL jh jh hI
theorem SJ:Eu 58 M fn 3 8158 1000000:=fun _ _ h hI=>Vd h jh Mj Up AJ EL UA jh jh hI
theorem QZ{I:Nat}{w:World}(h:Bn M I fn w w)(hI:I+300040≤1000000000000):Calls Tryz.prog 31 #[.pointer (some ⟨M.k,0,none⟩),.int .i64 2] w fun r w'=>EW M 4062 300040 I fn w r w':=Td h IC jh jh hI
theorem QY{I:Nat}{w:World}(h:Bn M I fn w w)(hI:I+3000040≤1000000000000):Calls Tryz.prog 31 #[.pointer (some ⟨M.k,0,none⟩),.int .i64 3] w fun r w'=>EW M 24474 3000040 I fn w r w':=Td h SJ jh jh hI
end
theorem Vl:∀(l:List Cy) (r:Cy),Fs (l++ [r])=Fs l+(Ar r.pats+Bo r.body)
 | [],r=>by simp [Fs]
 |k::l,r=>by rw [List.cons_append,Fs,Fs,Vl l r];omega
def BV(b e Z m:Nat)(W:World)(v:Value):Prop:=∃rs:List Cy,rs.length=m∧Ax Rm 52 9 W b (fun g=>b≤g∧g<e) rs v∧(∀r∈rs,Pb r.pats∧Ur r.body∧r.kind≤7)∧Fs rs≤Z
theorem BV.nil(b e:Nat)(W:World):BV b e 0 0 W (.slice none 0 0):=⟨[],rfl,.nil,by simp,Nat.le_refl _⟩
theorem BV.step{b e Z m:Nat}{W W':World}{v:Value}{fp:List Nat}(h:BV b e Z m W v)(hk:Ac fp W W')(hf:∀x∈fp,x<b∨e≤x):BV b e Z m W' v:=by
 obtain ⟨rs,h1,h2,h3⟩:=h;exact ⟨rs,h1,h2.kp Dh hk (fun x hx ht=>by have:=hf x hx;omega),h3⟩
theorem BV.to{b e e' Z Z' m:Nat}{W:World}{v:Value}(h:BV b e Z m W v)(he:e≤e')(hZ:Z≤Z'):BV b e' Z' m W v:=by
 obtain ⟨rs,h1,h2,h3,h4⟩:=h;exact ⟨rs,h1,h2.to Dh (fun x hx=>⟨hx.1,Nat.lt_of_lt_of_le hx.2 he⟩),h3,by omega⟩
theorem BV.slice{b e Z m:Nat}{W:World}{v:Value}(h:BV b e Z m W v):∃a c,v= .slice a m c:=by
 obtain ⟨rs,h1,h2,-⟩:=h;obtain ⟨a,c,hv,-⟩:=h2.slice;exact ⟨a,c,by rw [hv,h1]⟩
def Rl(b Z:Nat)(W:World)(c:List Value):Prop:=∃r:Cy,Rm W (fun g=>b≤g∧g<W.heap.size) r c∧Pb r.pats∧Ur r.body∧r.kind≤7∧Ar r.pats+Bo r.body≤Z
theorem Rl.mk{b Zp Zb:Nat}{W:World}{k n:Int}{pa:Option Addr}{pl pc:Nat}{b0 b1 b2 b3 b4:Value}{re im:Nat}(hk7:k≤7)(hp:Kd b Zp W (.slice pa pl pc))(hb:Nd b Zb W (.agg #[b0,b1,b2,b3,b4])):Rl b (Zp+Zb) W [.int .i64 k,.int .i64 n,.slice pa pl pc,b0,b1,b2,b3,b4,.complex .f64 re im]:=by
 obtain ⟨ps,p1,p2,p3⟩:=hp;obtain ⟨bn,q1,q2,q3⟩:=hb;have p4:=p1.bound;obtain ⟨a',c',e⟩:=p1.shape;injection e with e1 e2 e3
 subst e1 e2 e3;exact ⟨⟨k,n,ps,bn,re,im⟩,⟨_,_,_,_,_,_,_,rfl,p4,q1.bound⟩,p2,q2,hk7,by simp only;omega⟩
theorem Rl.step{b Z:Nat}{W W':World}{c:List Value}{fp:List Nat}(h:Rl b Z W c)(hk:Ac fp W W')(hf:∀x∈fp,x<b):Rl b Z W' c:=by
 obtain ⟨r,h1,h2⟩:=h;exact ⟨r,Dh.keep h1 hk (fun x hx hb=>by have:=hf x hx;omega) (fun x hx=>⟨hx.1,Nat.lt_of_lt_of_le hx.2 hk.size⟩),h2⟩
theorem BM{ops:Array Oper}{rest:List Oper}{o:Oper}{a:Act}{V:World}{Q:Exit→Act→World→Prop}(hgd:o.guard=none)(s y:Operand)(ho:o.op= .call {callee:= .builtin .append,args:= #[s,y],argTypes:= #[30,30]}){b e e1 Z Z1 m G cap:Nat}{v c0 c1 c2 c3 c4 c5 c6 c7 c8:Value}(hs:a.eval s=v)(hy:a.eval y= .slice (some ⟨G,0,none⟩) 1 cap)(hO:BV b e Z m V v)(hG:V.heap[G]? =some (.cells #[c0,c1,c2,c3,c4,c5,c6,c7,c8] 52 (0,0)))(hn:Rl e1 Z1 V [c0,c1,c2,c3,c4,c5,c6,c7,c8])(he:e≤e1)(heV:e≤V.heap.size)(hb:b≤e)(hm:m≤100000)(h:∀v' w' fl,(∀x∈fl,b≤x∧x<e)→Ac fl V w'→BV b w'.heap.size (Z+Z1) (m+1) w' v'→wpList Tryz.prog ops Q rest (a.put o.dst v') w'):wpList Tryz.prog ops Q (o::rest) a V:=by
 obtain ⟨rs,q1,q2,q3,q4⟩:=hO;obtain ⟨r,p1,p2,p3,p5,p4⟩:=hn;obtain ⟨i,hi,hz,hsz,hby⟩:=PJ;refine Ig Dh hgd s y 30 ho Tryz.underlying30 hi hz hsz hby rfl zi zi hs hy q2 (c:= [c0,c1,c2,c3,c4,c5,c6,c7,c8]) hG p1 (fun g h1 h2=>by omega) (fun g h=>h.2) (fun g h=>by omega) jh jh fun v' w' fl hfl hk hw=>h v' w' fl hfl hk ⟨rs++ [r],by simp [q1],hw.to Dh fun x hx=> ?_,fun r' hr'=> ?_, ?_⟩
 ·have:=hk.size
  rcases hx with hx|hx|hx<;>omega
 ·rcases List.mem_append.1 hr' with hr'|hr'
  ·exact q3 r' hr'
  obtain rfl:r'=r:=by simpa using hr'
  exact ⟨p2,p3,p5⟩
 rw [Vl];omega
structure VT (g:Ah):Prop where
 rules:∀r∈g.rules,Pb r.pats∧Ur r.body∧r.kind≤7
 funcs:∀f∈g.funcs,Ur f.body∧f.re=0∧f.im=0
 size:2*(Fs g.rules+In g.funcs)+Ij g.funcs≤400000
structure Pg (M:Bs) (I:Nat) (fn:Bool) (w W:World):Prop where
 fix:Qc M
 k:M.k=w.heap.size+1
 mak:Lq M I fn W
 keep:Ac [] w W
 res:W.heap[w.heap.size]? =some (.cells #[.slice none 0 0,.slice none 0 0] 33 (0,0))
theorem Pg.here{M:Bs}{I:Nat}{fn:Bool}{w W:World}(h:Pg M I fn w W):Bn M I fn W W:=Bn.start h.fix h.mak
theorem Pg.call{M:Bs}{I J:Nat}{fn fn':Bool}{w W W':World}(h:Pg M I fn w W)(hm:Lq M J fn' W')(hk:Ac [M.k] W W'):Pg M J fn' w W':=
 ⟨h.fix,h.k,hm,h.keep.trans hk (fun x hx=>by have:=h.k;simp at hx;right;omega),hk.at h.res (by have:=h.k;simp;omega)⟩
theorem Pg.kp{M:Bs}{I:Nat}{fn:Bool}{w W W':World}{fp:List Nat}(h:Pg M I fn w W)(hk:Ac fp W W')(hf:∀x∈fp,w.heap.size+2≤x):Pg M I fn w W':=by
 have h1:=h.k;have h2:=h.fix.hk;exact ⟨h.fix,h.k,h.mak.kp h.fix hk (fun hm=>by have:=hf _ hm;omega) (fun x hx=>by have:=hf x hx;have:=h.fix.hk;have h3:=h.keep.size;omega),h.keep.trans hk (fun x hx=> .inr (by have:=hf x hx;omega)),hk.at h.res (fun hm=>by have:=hf _ hm;omega)⟩
theorem Pg.to{M:Bs}{I J:Nat}{fn:Bool}{w W:World}(h:Pg M I fn w W)(hJ:I≤J):Pg M J fn w W:=⟨h.fix,h.k,h.mak.to hJ,h.keep,h.res⟩
mutual
theorem FT:∀{n:Af},Ur n→Yg n
 | .mk k nm x kids re im,h=>by rw [Ur] at h;rw [Yg];exact ⟨h.1,FU h.2.2.2⟩
theorem FU:∀{l:List Af},Pb l→Oy l
 | [],_=>trivial
 |k::l,h=>by rw [Pb] at h;rw [Oy];exact ⟨FT h.1,FU h.2⟩
end
theorem Po:∀{n:Af},Ur n→n.re=0∧n.im=0
 | .mk k nm x kids re im,h=>by rw [Ur] at h;exact ⟨h.2.1,h.2.2.1⟩
theorem VT.wf{g:Ah}(h:VT g):WH g:=⟨fun r hr=>⟨FU (h.rules r hr).1,FT (h.rules r hr).2.1⟩,fun f hf=>FT (h.funcs f hf).1,h.size⟩
def Z0(f:Option Ic):Prop:=∀x,f=some x→x.2.1=0∧x.2.2=0
theorem Z0.none:Z0 none:=fun _ h=>by cases h
theorem Z0.some{e:Int}{re im:Nat}(h1:re=0)(h2:im=0):Z0 (some (e,re,im)):=fun _ h=>by cases h;exact ⟨h1,h2⟩
theorem Z0.ite{p:Prop}[Decidable p]{a b:Option Ic}(ha:Z0 a)(hb:Z0 b):Z0 (if p then a else b):=by split<;>assumption
theorem Z0.or{a b:Option Ic}(ha:Z0 a)(hb:Z0 b):Z0 (a.or b):=by
 cases a with
 |none=>exact hb
 |some x=>exact ha
theorem SG{nm:ByteArray}:∀{l:List Af},Pb l→Z0 (Qe nm l)
 | [],_=>Z0.none
 | [_],_=>Z0.none
 | [_,_],_=>Z0.none
 | [_,_,k],h=>by
   rw [Pb,Pb,Pb] at h;have:=Po h.2.2.1;exact Z0.ite (Z0.some this.1 this.2) Z0.none
 |_::_::_::_::_,_=>Z0.none
theorem VA{g:Ah}{fn:Nat}{kd lo k:Int}{nm:ByteArray}{kids:List Af}{re im:Nat}(h1:re=0)(h2:im=0)(h:Pb kids):Z0 (Iq g fn kd lo k nm kids re im):=by
 have s:∀e,Z0 (some (e,re,im)):=fun e=>Z0.some h1 h2
 unfold Iq;exact .ite (.ite (s _) .none) (.ite (.ite (s _) (.ite (s _) .none)) (.ite (.ite (s _) (SG h)) (.ite (.ite (s _) .none) (.ite (.ite (s _) .none) (.ite (.ite (s _) .none) .none)))))
mutual
theorem BD{g:Ah}{fn:Nat}{kd:Int}:∀{lo:Int} {n:Af},Ur n→Z0 (Dg g fn kd lo n)
 | lo,.mk k nm x kids re im,h=>by
   rw [Ur] at h;rw [Dg];exact (VA h.2.1 h.2.2.1 h.2.2.2).or (BE h.2.2.2)
theorem BE{g:Ah}{fn:Nat}{kd:Int}:∀{lo:Int} {lp:Bool} {i:Nat} {l:List Af},Pb l→Z0 (Cg g fn kd lo lp i l)
 |lo,lp,i,[],_=>by rw [Cg];exact Z0.none
 | lo,lp,i,k::l,h=>by
   rw [Pb] at h;rw [Cg];have:=Po h.1;exact ((Z0.ite (Z0.some this.1 this.2) Z0.none).or (BD h.1)).or (BE h.2)
end
theorem UY{g:Ah}(h:VT g):Z0 (Qw g):=by
 have h1:∀l:List Cy,(∀r∈l,Pb r.pats∧Ur r.body∧r.kind≤7)→Z0 (Mi g l):=by
  intro l
  induction l with
  |nil=>intro _;exact Z0.none
  |cons r l ih=>intro hl;have:=hl r qg;exact ((BE this.1).or (BD this.2.1)).or (ih fun r hr=>hl r (by simp [hr]))
 have h2:∀(l:List Az) (i:Nat),(∀f∈l,Ur f.body∧f.re=0∧f.im=0)→Z0 (Ip g i l):=by
  intro l
  induction l with
  |nil=>intro i _;exact Z0.none
  |cons r l ih=>intro i hl;exact (BD (hl r qg).1).or (ih _ fun r hr=>hl r (by simp [hr]))
 exact (h1 _ h.rules).or (h2 _ _ h.funcs)
theorem JL{g:Ah}{f:Az}(h1:f.re=0)(h2:f.im=0):∀(l pre:List ByteArray),Z0 (Sy g f pre l)
 | [],pre=>Z0.none
 |s::l,pre=>((Z0.ite (Z0.some h1 h2) Z0.none).or (Z0.ite (Z0.some h1 h2) Z0.none)).or (JL h1 h2 l _)
theorem JN{g:Ah}:∀(l:List Az) (i:Nat),(∀f∈l,Ur f.body∧f.re=0∧f.im=0)→Z0 (Ov g i l)
 | [],i,_=>Z0.none
 | f::l,i,h=>by
   have:=(h f qg).2;exact (((Z0.ite (Z0.some this.1 this.2) Z0.none).or (Z0.ite (Z0.some this.1 this.2) Z0.none)).or (JL this.1 this.2 _ _)).or (JN l _ fun f hf=>h f (by simp [hf]))
/-! ### uses -/
def zE:Ev→Prop
 | .see _ re im=>re=0∧im=0
 | .use _ _ re im=>re=0∧im=0
 | .kid _ re im=>re=0∧im=0
 | .bad re im=>re=0∧im=0
 | .link _ _ re im=>re=0∧im=0
 | .reg _=>True
def zL(l:List Ev):Prop:=∀e∈l,zE e
theorem zL.nil:zL []:=fun _ h=>by cases h
theorem zL.cons{e:Ev}{l:List Ev}(h:zE e)(t:zL l):zL (e::l):=fun x hx=>by
 rcases List.mem_cons.1 hx with rfl|hx
 ·exact h
 exact t x hx
theorem zL.app{a b:List Ev}(h:zL a)(t:zL b):zL (a++b):=fun x hx=>(List.mem_append.1 hx).elim (h x) (t x)
theorem zL.ite{p:Prop}[Decidable p]{a b:List Ev}(ha:zL a)(hb:zL b):zL (if p then a else b):=by split<;>assumption
theorem UG{g:Ah}{fn:Nat}:∀{l:List Af},Pb l→zL (LI g fn l)
 | [],_=>zL.nil
 | [k],h=>by rw [Pb] at h;exact zL.cons (Po h.1) zL.nil
 |_::_::_,_=>zL.nil
mutual
theorem Sv{g:Ah}{fn:Nat}:∀{n:Af},Ur n→zL (Xd g fn n)
 | .mk k nm x kids re im,h=>by
   rw [Ur] at h;rw [Xd];refine zL.ite (PV h.2.2.2) (zL.ite (zL.ite (UG h.2.2.2) (PX h.2.2.2)) (zL.app ?_ (GF h.2.2.2)));unfold AM;refine zL.ite ?_ (zL.ite ?_ zL.nil)
   ·exact zL.cons ⟨h.2.1,h.2.2.1⟩ zL.nil
   exact zL.cons ⟨h.2.1,h.2.2.1⟩ zL.nil
theorem GF{g:Ah}{fn:Nat}:∀{l:List Af},Pb l→zL (Nq g fn l)
 | [],_=>by rw [Nq];exact zL.nil
 |k::l,h=>by rw [Pb] at h;rw [Nq];exact (Sv h.1).app (GF h.2)
theorem PV{g:Ah}{fn f:Nat}:∀{ps:List ByteArray} {l:List Af},Pb l→zL (Zl g fn f ps l)
 |_,[],_=>by rw [Zl];exact zL.nil
 | [],_::_,_=>by rw [Zl];exact zL.nil
 | p::ps,k::l,h=>by
   rw [Pb] at h;rw [Zl];refine zL.app (zL.ite ?_ ?_) (PV h.2)
   ·exact zL.cons (Po h.1) zL.nil
   exact zL.cons (Po h.1) (Sv h.1)
theorem PX{g:Ah}{fn:Nat}{arr:Int}:∀{i:Nat} {l:List Af},Pb l→zL (Xt g fn arr i l)
 |i,[],_=>by rw [Xt];exact zL.nil
 | i,k::l,h=>by
   rw [Pb] at h;rw [Xt];refine zL.app (zL.ite (zL.ite ?_ ?_) (Sv h.1)) (PX h.2)
   ·exact zL.cons (Po h.1) zL.nil
   exact zL.cons (Po h.1) (Sv h.1)
end
theorem XP{g:Ah}(h:VT g):zL (MS g):=by
 have h1:∀l:List Cy,(∀r∈l,Pb r.pats∧Ur r.body∧r.kind≤7)→zL (LU g l):=by
  intro l
  induction l with
  |nil=>intro _;exact zL.nil
  |cons r l ih=>intro hl;have:=hl r qg;exact ((GF this.1).app (Sv this.2.1)).app (ih fun r hr=>hl r (by simp [hr]))
 have h2:∀(l:List Az) (i:Nat),(∀f∈l,Ur f.body∧f.re=0∧f.im=0)→zL (Ou g i l):=by
  intro l
  induction l with
  |nil=>intro i _;exact zL.nil
  |cons r l ih=>
   intro i hl;refine (zL.app (fun e he=> ?_) (Sv (hl r qg).1)).app (ih _ fun r hr=>hl r (by simp [hr]));obtain ⟨s,-,rfl⟩:=List.mem_map.1 he
   trivial
 exact (h1 _ h.rules).app (h2 _ _ h.funcs)
def UZ(st:DS):Prop:=∀u∈st.uses,u.re=0∧u.im=0
theorem UZ.use{st st1 st':DS}{u:Gq}(h:UZ st)(h1:st1.uses=st.uses)(hu:Jx st1 u=some st')(h0:u.re=0∧u.im=0):UZ st':=by
 exact zoe
theorem Xh{st st':DS}{t:Ae}{i:Nat}(h:Um st t=some (i,st')):st'.uses=st.uses:=by
 unfold Um at h
 split at h
 ·cases h;rfl
 split at h
 ·cases h;rfl
 cases h
theorem UZ.ev{st st':DS}{e:Ev}(h:UZ st)(hz:zE e)(he:It st e=some st'):UZ st':=by
 cases e with
 |see t re im=>
  exact zwe
 |use t arr re im=>
  exact zwe
 |kid t re im=>
  simp only [It,Option.bind_eq_some_iff] at he;obtain ⟨⟨i,d1⟩,h1,h2⟩:=he;have h3:UZ d1:=by unfold UZ;rw [Xh h1];exact h
  exact h3.use (by rfl) h2 hz
 |bad re im=>exact h.use rfl he hz
 |link a p re im=>
  simp only [It,Option.bind_eq_some_iff,Option.some.injEq] at he;obtain ⟨⟨i,d1⟩,h1,⟨j,d2⟩,h2,d3,h3,x,-,y,-,rfl⟩:=he;exact h.use (st':=d3) ((Xh h2).trans (Xh h1)) h3 hz
 |reg t=>
  simp only [It,Option.map_eq_some_iff] at he;obtain ⟨⟨i,d1⟩,h1,rfl⟩:=he;unfold UZ;rw [Xh h1];exact h
theorem UZ.evs:∀{l:List Ev} {st st':DS},UZ st→zL l→Ee l st=some st'→UZ st'
 | [],st,st',h,_,he=>by cases he;exact h
 | e::l,st,st',h,hz,he=>by
   have he':(It st e).bind (Ee l)=some st':=he;rw [Option.bind_eq_some_iff] at he';obtain ⟨s,h1,h2⟩:=he';exact (h.ev (hz e qg) h1).evs (fun x hx=>hz x (by simp [hx])) h2
theorem Rf{st:DS}{k:List Int}{f:Ic}:∀{l:List Gq} {i:Nat},(∀u∈l,u.re=0∧u.im=0)→Cj st k i l=some (some f)→f.2.1=0∧f.2.2=0
 | [],i,_,h=>by rw [Cj] at h;cases h
 | u::l,i,hu,h=>by
   rw [Cj,Option.bind_eq_some_iff] at h;obtain ⟨b,h1,h2⟩:=h
   cases b with
   |true=>rw [if_pos rfl] at h2;cases h2;exact hu u qg
   |false=>rw [if_neg qg] at h2;exact Rf (fun u h=>hu u (by simp [h])) h2
theorem NI{g:Ah}(h:VT g):(Ek g).re=0∧(Ek g).im=0:=by
 have hc:=Nr h.wf
 have hf:∀f:Ic,(f.2.1=0∧f.2.2=0)→some (fT f)=some (Ek g)→(Ek g).re=0∧(Ek g).im=0:=fun f h0 h=>by
  rw [←Option.some.inj h];exact h0
 unfold Ns at hc
 split at hc
 ·rename_i x hx;exact hf x (JN _ _ h.funcs x hx) hc
 split at hc
 ·rename_i x hx;exact hf x (UY h x hx) hc
 rw [Option.bind_eq_some_iff] at hc;obtain ⟨st,h1,h2⟩:=hc
 have hs:zL YN:=fun e he=>by
  obtain ⟨s,-,rfl⟩:=List.mem_map.1 he;exact Qd
 have hU:UZ st:=UZ.evs (st:=MT) (fun u hu=>by cases hu) (hs.app (XP h)) h1;unfold Xe at h2;rw [Option.bind_eq_some_iff] at h2;obtain ⟨kf,-,h2⟩:=h2;rw [Option.bind_eq_some_iff] at h2;obtain ⟨bad,hb,h2⟩:=h2
 cases bad with
 |some f=>exact hf f (Rf hU hb) h2
 |none=>
  have h3:(Xj st kf g).map (fun i=>(⟨i,0,0,0⟩:Ox))=some (Ek g):=h2;rw [Option.map_eq_some_iff] at h3;obtain ⟨i,-,h3⟩:=h3;rw [←h3];exact ⟨rfl,rfl⟩
theorem CH{s:ByteArray}{p k:Nat}{st st2:Bq}{f:Cy}(hx:CI s (FR s k) st=some (f,st2))(w:World)(h:PP s p st w):Calls Tryz.prog 66 #[.pointer (some ⟨p,0,none⟩)] w fun r w'=>∃v,r= .returned (.tuple #[v,.bool true])∧Jc w' (fun g=>w.heap.size≤g) f v∧PP s p st2 w'∧Ac [p] w w':=by
 simp only [CI,Option.bind_eq_bind,Option.bind_eq_some_iff,Prod.exists] at hx;obtain ⟨t0,re,im,h0,b,st1,h1,hx⟩:=hx;obtain ⟨ht0,rfl,rfl⟩:=Mf h0;obtain ⟨kd0,tx0,nm0,fr0,te0⟩:=t0
 cases b with
 |true=>
  simp only [if_true,Option.bind_eq_some_iff,Prod.exists,Option.some.injEq,Prod.mk.injEq] at hx;obtain ⟨n,st3,h3,rfl,rfl⟩:=hx;exact FO ht0 h1 (Pn k .block _ _ _ h3) w h
 | false=>
  obtain ⟨rfl,hn⟩:=Ph h1;simp only [Bool.false_eq_true,if_false,Option.bind_eq_some_iff,Prod.exists] at hx;obtain ⟨_,h2,_,h3,_,h4,c,h5,hx⟩:=hx
  cases c with
  |true=>
   simp only [if_true,Option.bind_eq_some_iff,Prod.exists,Option.some.injEq,Prod.mk.injEq] at hx;obtain ⟨n,st3,h6,rfl,rfl⟩:=hx;exact CG ht0 hn h2 h3 h4 h5 (Pn k .block _ _ _ h6) w h
  |false=>simp at hx
def Iu(w:World)(S:Nat→Prop)(g:Ah)(v:Value):Prop:=
 ∃pa pc qa qc,v= .agg #[.slice pa g.rules.length pc,.slice qa g.funcs.length qc]∧Aq Rm w S g.rules (.slice pa g.rules.length pc)∧Aq Ug w S g.funcs (.slice qa g.funcs.length qc)
theorem Iu.kp{w w':World}{S:Nat→Prop}{fp:List Nat}{g:Ah}{v:Value}(h:Iu w S g v)(hk:Ac fp w w')(hf:∀x∈fp,¬S x):Iu w' S g v:=by
 obtain ⟨pa,pc,qa,qc,h,h1,h2⟩:=h;exact ⟨pa,pc,qa,qc,h,h1.kp Dh hk hf,h2.kp Es hk hf⟩
theorem PF{s:ByteArray}{p gb k:Nat}{w wi:World}{st st2:Bq}{rs:List Cy}{fs:List Az}{g2:Ah}(hlen:rs.length+fs.length≤1000)(g_0:14<w.heap.size)(hi:ET s p gb w rs fs st wi)
  (hx:(do
   let b ←AW s st (bs [102,117,110,99,116,105,111,110])
   if b then none
   else do
    let (x,st) ←CI s (FR s k) st
    some ((⟨rs++ [x],fs⟩:Ah),st))=some (g2,st2)):
  Calls Tryz.prog 37 #[.pointer (some ⟨p,0,none⟩),.pointer (some ⟨gb,0,none⟩)] wi fun r w'=>r= .returned (.tuple #[])∧ET s p gb w g2.rules g2.funcs st2 w':=by
 simp only [Option.bind_eq_bind,Option.bind_eq_some_iff] at hx;obtain ⟨b,hb,hx⟩:=hx
 cases b with
 |true=>
  simp at hx
 |false=>
  simp only [Bool.false_eq_true,if_false,Option.bind_eq_some_iff,Prod.exists,Option.some.injEq,Prod.mk.injEq] at hx;obtain ⟨f,st3,h3,rfl,rfl⟩:=hx;exact XK hb (CH h3) jh g_0 hi
def YC(s:ByteArray)(p gb:Nat)(w:World)(rec:Zx)(g':Ah)(g:Nat)(W:World):Prop:=
 ∃(rs:List Cy) (fs:List Az) (st:Bq),Pr s rec g ⟨rs,fs⟩ st=some g'∧rs.length+fs.length+g≤100∧ET s p gb w rs fs st W
theorem DJ{s:ByteArray}{rec:Zx}{f:Nat}{rs:List Cy}{fs:List Az}{st:Bq}{g':Ah}(h:Pr s rec (f+1) ⟨rs,fs⟩ st=some g'):∃st1 t,Sp s st (bs [59])=some st1∧Be s st1.pos true=some t∧
  ((t.kind=0∧g'=⟨rs,fs⟩)∨(t.kind≠0∧∃g2 st2,(do
   let b ←AW s st1 (bs [102,117,110,99,116,105,111,110])
   if b then none
   else do
    let (x,st) ←CI s rec st1
    some ((⟨rs++ [x],fs⟩:Ah),st))=some (g2,st2)∧g2.rules.length+g2.funcs.length=rs.length+fs.length+1∧Pr s rec f g2 st2=some g')):=by
 rw [Pr] at h;simp only [Option.bind_eq_bind,Option.bind_eq_some_iff] at h;obtain ⟨st1,h1,t,h2,h⟩:=h;refine ⟨st1,t,h1,h2, ?_⟩
 by_cases h0:t.kind=0
 ·rw [if_pos h0] at h;exact qzb
 rw [if_neg h0] at h;simp only [Option.bind_eq_some_iff] at h;obtain ⟨b,h3,h⟩:=h;refine .inr ⟨h0, ?_⟩
 cases b with
 |true=>
  simp at h
 |false=>
  simp only [Bool.false_eq_true,if_false,Option.bind_eq_some_iff,Prod.exists] at h;obtain ⟨x,st3,h4,h⟩:=h;exact ⟨_,_,by simp [h3,h4],by simp;omega,h⟩
theorem LC{s:ByteArray}{g':Ah}{w:World}(hg:Gl w)(hx:Pm s=some g'):Calls Tryz.prog 21 #[.string s] w fun r w'=>∃v,r= .returned (.tuple #[v,.complex .f64 0 0,.int .i64 0])∧Iu w' (fun g=>w.heap.size≤g) g' v∧Ac [] w w':=by
 unfold Pm at hx
 split at hx
 rotate_left
 ·cases hx
 rename_i hsz;have hsz2:(s.size:Int)≤4096:=by omega
 have g_00:=hg.2.2;have HG0:=zh hg;have HG:=zh hx;have HK0:=zh (Ac.refl [] w);clear hg hx
 go_enter Tryz.func21,Tryz.ntmps21
 go_upto_region 3 with fail
 refine Bj (fun W=>Ac [] w W∧W.heap[w.heap.size]? =some (.cells #[.slice none 0 0,.slice none 0 0] 33 (0,0))) ⟨jg,jb⟩ ?_;rintro w1 ⟨Kw1,cw1_R⟩;have o_R:w.heap.size≤w.heap.size:=Nat.le_refl _;have HKw1:=zh (HK0.1.trans Kw1 qg);have Rw1_R:=zh cw1_R;clear Kw1 cw1_R HK0;have HGl:=zh (HG0.1.keep HKw1.1 qg);have HK1:=zh (Ac.refl [] w1);have g_0:14<w1.heap.size:=Nat.lt_of_lt_of_le g_00 HKw1.1.size;have HR1:=zh Rw1_R.1;have l_R:=Ad Rw1_R.1;have l_R_1:w.heap.size<w1.heap.size+1:=Nat.lt_add_right 1 l_R
 go_wp2_with fail
 refine Bj (fun W=>Ac [] w1 W∧W.heap[w1.heap.size]? =some (.cells #[.string s,.int .i64 0,.int .i64 0,.bool false,.int .i64 0,.complex .f64 0 0] 87 (0,0))∧W.heap[w1.heap.size+1]? =some (.cells #[.slice none 0 0,.slice none 0 0] 33 (0,0))) ⟨jg,jd,jd⟩ ?_;rintro w21 ⟨Kw21,cw21_p,cw21_g⟩;have ⟨n_R_p,n_p_R⟩:=Ai l_R;have o_p:w1.heap.size≤w1.heap.size:=Nat.le_refl _;have ⟨n_R_g,n_g_R⟩:=Ai (Nat.lt_add_right 1 l_R);have n_p_g:w1.heap.size≠w1.heap.size+1:=by simp
 have n_g_p:w1.heap.size+1≠w1.heap.size:=by simp
 have o_g:w1.heap.size≤w1.heap.size+1:=Nat.le_trans (Nat.le_refl _) (Nat.le_add_right _ 1);have Rw21_R:=zh (Kw21.at Rw1_R.1 qg);have HKw21:=zh (HK1.1.trans Kw21 qg);have Rw21_p:=zh cw21_p;have Rw21_g:=zh cw21_g;clear Kw21 cw21_p cw21_g l_R l_R_1 Rw1_R HK1;have hpp:PP s (w1.heap.size) ⟨0,0,false⟩ w21:=⟨HGl.1.keep (fp:= []) HKw21.1 qg,Rw21_p.1,g_0,hsz,Nat.zero_le _,by decide⟩
 go_loopg [] 50 (fun g wr=>YC s (w1.heap.size) (w1.heap.size+1) w1 (FR s 100) g' g wr)
 case atStart=>exact ⟨[],[],⟨0,0,false⟩,HG.1,by simp,_,_,fun _=>False,fun _=>False,0,Ax.nil,Ax.nil,fun _ h=>h.elim,fun _ h=>h.elim,Nat.zero_le _,fun _ h=>h.elim,fun _ h=>h.elim,fun _ h=>h.elim,fun h=>h,fun h=>h,fun h=>h,fun h=>h,n_p_g,o_p,o_g,hpp,HKw21.1,Rw21_g.1⟩
 clear HG hpp;obtain ⟨rs,fs,st1,hG,hlen,v1,v2,T1,T2,U,h1,h2,up_x,up_y,us_x,dn_x,dn_y,dj_x_y,ns_x_p,ns_y_p,ns_x_g,ns_y_g,n_p_g,o_p,o_g,hp,hk,hg⟩:=hrel;obtain ⟨a1,c1,rfl,-⟩:=h1.slice;obtain ⟨a2,c2,rfl,-⟩:=h2.slice;have us_y:=us_x;have n_g_p:=Ne.symm n_p_g;have l_R1:w.heap.size<w1.heap.size:=Ad HR1.1;have n_R_p:w.heap.size≠w1.heap.size:=Nat.ne_of_lt (Nat.lt_of_lt_of_le l_R1 o_p);have n_p_R:=Ne.symm n_R_p;have n_R_g:w.heap.size≠w1.heap.size+1:=Nat.ne_of_lt (Nat.lt_of_lt_of_le l_R1 o_g);have n_g_R:=Ne.symm n_R_g;have ns_x_R:¬T1 w.heap.size:=fun h=>Nat.not_lt_of_le (dn_x _ h) l_R1
 have ns_y_R:¬T2 w.heap.size:=fun h=>Nat.not_lt_of_le (dn_y _ h) l_R1
 have g_p:14<w1.heap.size:=hp.p;have g_g:14<w1.heap.size+1:=Nat.lt_of_lt_of_le g_0 o_g;have g_R:14<w.heap.size:=g_00;have HX1:=zh h1;have HY1:=zh h2;have HPr:=zh hp;have HKr:=zh hk;have Rg:=zh hg;have RR:=zh (hk.at HR1.1 qg);have HKr2:=zh (hk.weaken (fp':= [w.heap.size]) qg);clear h1 h2 hp hk hg
 cases gk with
 |zero=>simp [Pr] at hG
 | succ f=>
  obtain ⟨st2,t,hl,ht,hG⟩:=DJ hG;obtain ⟨kd,tx,nm,fr,te⟩:=t;have HL:Hd (Lz s ⟨#[59]⟩ (s.size+2) st1=some st2):=zh hl;have HT:=zh ht;clear hl ht
  rcases hG with ⟨h0,rfl⟩|⟨h0,g2,st3,hi,hl2,hG⟩
  ·simp only at h0;subst h0;have l_p:=Ad HPr.1.row;have l_g:=Ad Rg.1;have l_R:=Ad RR.1
   go_wp2_with fail
   clear l_p l_g l_R;refine (Eh HPr.1).mono ?_;rintro r w' ⟨rfl,hw'⟩;rw [hw'];clear hw';have l_p:=Ad HPr.1.row;have l_g:=Ad Rg.1;have l_R:=Ad RR.1
   go_wp2_with fail
   clear l_p l_g l_R;refine (Oe HPr.1 HL.1).mono ?_;rintro r e51 ⟨rfl,hp,hk⟩;have Re51_g:=zh (hk.at Rg.1 (by simp [n_g_p]));have Re51_R:=zh (hk.at RR.1 qk);have HKe51:=zh (HKr2.1.trans hk (by simp [o_p]));have xe51:=zh (Ax.kp Dh HX1.1 hk (by simp [ns_x_p]));have us_xe51:=Nat.le_trans us_x hk.size;have ye51:=zh (Ax.kp Es HY1.1 hk (by simp [ns_y_p]));have us_ye51:=Nat.le_trans us_y hk.size;have HPne51:=zh hp;clear hp;clear hk Rg RR HKr2 HX1 us_x HY1 us_y HPr;have l_p:=Ad HPne51.1.row;have l_g:=Ad Re51_g.1;have l_R:=Ad Re51_R.1
   go_wp2_with fail
   clear l_p l_g l_R;refine (Kl HPne51.1 HT.1).mono ?_;rintro r e52 ⟨rfl,hk⟩;have Re52_g:=zh (hk.at Re51_g.1 qg);have Re52_R:=zh (hk.at Re51_R.1 qg);have HKe52:=zh (HKe51.1.trans hk qg);have HPe52:=zh (HPne51.1.keep hk);have xe52:=zh (Ax.kp Dh xe51.1 hk qg);have us_xe52:=Nat.le_trans us_xe51 hk.size;have ye52:=zh (Ax.kp Es ye51.1 hk qg);have us_ye52:=Nat.le_trans us_ye51 hk.size;clear hk Re51_g Re51_R HKe51 HPne51 xe51 us_xe51 ye51 us_ye51;have l_p:=Ad HPe52.1.row;have l_g:=Ad Re52_g.1;have l_R:=Ad Re52_R.1
   go_wp2_with fail
   refine An (fun W=>Ac [] e52 W∧W.heap[e52.heap.size]? =some (.cells #[.int .i64 0,.string tx,.float .f64 nm,.int .i64 fr,.int .i64 te] 90 (0,0))) ⟨jg,jb⟩ ?_;rintro w53 ⟨Kw53,cw53_T⟩;have ⟨n_p_T,n_T_p⟩:=Ai l_p;have ⟨n_g_T,n_T_g⟩:=Ai l_g;have ⟨n_R_T,n_T_R⟩:=Ai l_R;have o_T:w1.heap.size≤e52.heap.size:=HKe52.1.size;have g_T:14<e52.heap.size:=Nat.lt_trans g_p l_p;have ns_x_T:¬(T1) (e52.heap.size):=fun h=>Nat.not_lt_of_le (us_xe52) (up_x _ h)
   have ns_y_T:¬(T2) (e52.heap.size):=fun h=>Nat.not_lt_of_le (us_ye52) (up_y _ h)
   have Rw53_g:=zh (Kw53.at Re52_g.1 qg);have Rw53_R:=zh (Kw53.at Re52_R.1 qg);have HKw53:=zh (HKe52.1.trans Kw53 qg);have HPw53:=zh (HPe52.1.keep Kw53);have xw53:=zh (Ax.kp Dh xe52.1 Kw53 qg);have us_xw53:=Nat.le_trans us_xe52 Kw53.size;have yw53:=zh (Ax.kp Es ye52.1 Kw53 qg);have us_yw53:=Nat.le_trans us_ye52 Kw53.size;have Rw53_T:=zh cw53_T;clear Kw53 cw53_T l_p l_g l_R Re52_g Re52_R HKe52 HPe52 xe52 us_xe52 ye52 us_ye52;refine (Eh HPw53.1).mono ?_;rintro r w' ⟨rfl,hw'⟩;rw [hw'];clear hw';have l_p:=Ad HPw53.1.row;have l_g:=Ad Rw53_g.1;have l_R:=Ad Rw53_R.1;obtain ⟨l_T,xT⟩:=Bv Rw53_T.1
   go_wp2_with fail
   clear l_p l_g l_R l_T xT;refine (Eh HPw53.1).mono ?_;rintro r w' ⟨rfl,hw'⟩;rw [hw'];clear hw';have l_p:=Ad HPw53.1.row;obtain ⟨l_g,xg⟩:=Ki Rw53_g.1;obtain ⟨l_R,xR⟩:=Ki Rw53_R.1;have l_T:=Ad Rw53_T.1
   go_wp2_with fail
   refine Ap (v:= .tuple #[.agg #[.slice a1 rs.length c1,.slice a2 fs.length c2],.complex .f64 0 0,.int .i64 0]) (fun W=>Ac [w.heap.size] w53 W∧W.heap[w.heap.size]? =some (.cells #[.slice a1 rs.length c1,.slice a2 fs.length c2] 33 (0,0))) ⟨jg,(zc Rw53_R.1 l_R)⟩ (fun w54 hW=> ?_) rfl (fun w54 hW=> ?_)
   ·obtain ⟨Kw54,cw54_R⟩:=hW;have q0:=Aa cw54_R 0;have q1:=Aa cw54_R 1;simp at q0 q1;exact YK
   obtain ⟨Kw54,cw54_R⟩:=hW;have Rw54_g:=zh (Kw54.at Rw53_g.1 (by simp [n_g_R]));have Rw54_T:=zh (Kw54.at Rw53_T.1 jy);have HKw54:=zh (HKw53.1.trans Kw54 qg);have HPw54:=zh (HPw53.1.keepN Kw54 jr zt);have xw54:=zh (Ax.kp Dh xw53.1 Kw54 (by simp [ns_x_R]));have us_xw54:=Nat.le_trans us_xw53 Kw54.size;have yw54:=zh (Ax.kp Es yw53.1 Kw54 (by simp [ns_y_R]));have us_yw54:=Nat.le_trans us_yw53 Kw54.size;have Rw54_R:=zh cw54_R;clear Kw54 cw54_R l_p l_g xg l_R xR l_T Rw53_g Rw53_T HKw53 HPw53 xw53 us_xw53 yw53 us_yw53 Rw53_R;exact ⟨_,rfl,⟨_,_,_,_,rfl,(Eg Dh xw54.1).to Dh (fun x h=>Nat.le_trans HKw1.1.size (dn_x x h)),(Eg Es yw54.1).to Es (fun x h=>Nat.le_trans HKw1.1.size (dn_y x h))⟩,(HKw1.1).trans (fp':= [w.heap.size]) HKw54.1 qg⟩
  have n0:(kd==0)=false:=beq_false_of_ne h0;have HI:=zh hi;have HF:=zh hG;have hlen2:rs.length+fs.length≤1000:=by omega
  have hlen3:=zh (show g2.rules.length+g2.funcs.length+f≤100 by omega);clear hi hG hl2 h0;have l_p:=Ad HPr.1.row;have l_g:=Ad Rg.1;have l_R:=Ad RR.1
  go_wp2_with fail
  clear l_p l_g l_R;refine (Eh HPr.1).mono ?_;rintro r w' ⟨rfl,hw'⟩;rw [hw'];clear hw';have l_p:=Ad HPr.1.row;have l_g:=Ad Rg.1;have l_R:=Ad RR.1
  go_wp2_with fail
  clear l_p l_g l_R;refine (Oe HPr.1 HL.1).mono ?_;rintro r e51 ⟨rfl,hp,hk⟩;have Re51_g:=zh (hk.at Rg.1 (by simp [n_g_p]));have Re51_R:=zh (hk.at RR.1 qk);have HKe51:=zh (HKr.1.trans hk (by simp [o_p]));have xe51:=zh (Ax.kp Dh HX1.1 hk (by simp [ns_x_p]));have us_xe51:=Nat.le_trans us_x hk.size;have ye51:=zh (Ax.kp Es HY1.1 hk (by simp [ns_y_p]));have us_ye51:=Nat.le_trans us_y hk.size;have HPne51:=zh hp;clear hp;clear hk Rg RR HKr HX1 us_x HY1 us_y HPr;have l_p:=Ad HPne51.1.row;have l_g:=Ad Re51_g.1;have l_R:=Ad Re51_R.1
  go_wp2_with fail
  clear l_p l_g l_R;refine (Kl HPne51.1 HT.1).mono ?_;rintro r e52 ⟨rfl,hk⟩;have Re52_g:=zh (hk.at Re51_g.1 qg);have Re52_R:=zh (hk.at Re51_R.1 qg);have HKe52:=zh (HKe51.1.trans hk qg);have HPe52:=zh (HPne51.1.keep hk);have xe52:=zh (Ax.kp Dh xe51.1 hk qg);have us_xe52:=Nat.le_trans us_xe51 hk.size;have ye52:=zh (Ax.kp Es ye51.1 hk qg);have us_ye52:=Nat.le_trans us_ye51 hk.size;clear hk Re51_g Re51_R HKe51 HPne51 xe51 us_xe51 ye51 us_ye51;have l_p:=Ad HPe52.1.row;have l_g:=Ad Re52_g.1;have l_R:=Ad Re52_R.1
  go_wp2_with fail
  refine An (fun W=>Ac [] e52 W∧W.heap[e52.heap.size]? =some (.cells #[.int .i64 kd,.string tx,.float .f64 nm,.int .i64 fr,.int .i64 te] 90 (0,0))) ⟨jg,jb⟩ ?_;rintro w53 ⟨Kw53,cw53_T⟩;have ⟨n_p_T,n_T_p⟩:=Ai l_p;have ⟨n_g_T,n_T_g⟩:=Ai l_g;have ⟨n_R_T,n_T_R⟩:=Ai l_R;have o_T:w1.heap.size≤e52.heap.size:=HKe52.1.size;have g_T:14<e52.heap.size:=Nat.lt_trans g_p l_p;have ns_x_T:¬(T1) (e52.heap.size):=fun h=>Nat.not_lt_of_le (us_xe52) (up_x _ h)
  have ns_y_T:¬(T2) (e52.heap.size):=fun h=>Nat.not_lt_of_le (us_ye52) (up_y _ h)
  have Rw53_g:=zh (Kw53.at Re52_g.1 qg);have Rw53_R:=zh (Kw53.at Re52_R.1 qg);have HKw53:=zh (HKe52.1.trans Kw53 qg);have HPw53:=zh (HPe52.1.keep Kw53);have xw53:=zh (Ax.kp Dh xe52.1 Kw53 qg);have us_xw53:=Nat.le_trans us_xe52 Kw53.size;have yw53:=zh (Ax.kp Es ye52.1 Kw53 qg);have us_yw53:=Nat.le_trans us_ye52 Kw53.size;have Rw53_T:=zh cw53_T;clear Kw53 cw53_T l_p l_g l_R Re52_g Re52_R HKe52 HPe52 xe52 us_xe52 ye52 us_ye52;refine (Eh HPw53.1).mono ?_;rintro r w' ⟨rfl,hw'⟩;rw [hw'];clear hw';have l_p:=Ad HPw53.1.row;have l_g:=Ad Rw53_g.1;have l_R:=Ad Rw53_R.1;obtain ⟨l_T,xT⟩:=Bv Rw53_T.1
  go_wp2_with fail
  clear l_p l_g l_R l_T xT;refine (PF (k:=100) hlen2 g_0 ⟨_,_,T1,T2,w53.heap.size,xw53.1,yw53.1,fun x h=>Nat.lt_of_lt_of_le (up_x x h) us_xw53,fun x h=>Nat.lt_of_lt_of_le (up_y x h) us_yw53,Nat.le_refl _,dn_x,dn_y,dj_x_y,ns_x_p,ns_y_p,ns_x_g,ns_y_g,n_p_g,o_p,o_g,HPw53.1,HKw53.1,Rw53_g.1⟩ HI.1).mono ?_;rintro r e99 ⟨rfl,hpi⟩;have HPI:=zh hpi;clear hpi
  go_wp2_with fail
  go_roundg f
  case measure=>omega
  case rel=>exact ⟨_,_,_,HF.1,hlen3.1,HPI.1⟩
theorem KO(w:World):Calls Tryz.prog 12 #[.string ⟨#[78,82]⟩] w fun r w'=>r= .returned (.bool true)∧w'=w:=by
 exact GZ
theorem KN(w:World):Calls Tryz.prog 12 #[.string ⟨#[78,70]⟩] w fun r w'=>r= .returned (.bool true)∧w'=w:=by
 exact GZ
theorem KM(w:World):Calls Tryz.prog 12 #[.string ⟨#[70,83]⟩] w fun r w'=>r= .returned (.bool true)∧w'=w:=by
 exact GZ
theorem KJ(w:World):Calls Tryz.prog 12 #[.string ⟨#[79,70,83]⟩] w fun r w'=>r= .returned (.bool true)∧w'=w:=by
 exact GZ
theorem KI(w:World):Calls Tryz.prog 12 #[.string ⟨#[79,82,83]⟩] w fun r w'=>r= .returned (.bool true)∧w'=w:=by
 exact GZ
theorem KH(w:World):Calls Tryz.prog 12 #[.string ⟨#[82,83]⟩] w fun r w'=>r= .returned (.bool true)∧w'=w:=by
 exact GZ
theorem KG(w:World):Calls Tryz.prog 12 #[.string ⟨#[83,85,66,83,69,80]⟩] w fun r w'=>r= .returned (.bool true)∧w'=w:=by
 exact GZ
theorem KF(w:World):Calls Tryz.prog 12 #[.string ⟨#[67,79,78,86,70,77,84]⟩] w fun r w'=>r= .returned (.bool true)∧w'=w:=by
 exact GZ
theorem KD(w:World):Calls Tryz.prog 12 #[.string ⟨#[79,70,77,84]⟩] w fun r w'=>r= .returned (.bool true)∧w'=w:=by
 exact GZ
theorem KC(w:World):Calls Tryz.prog 12 #[.string ⟨#[82,83,84,65,82,84]⟩] w fun r w'=>r= .returned (.bool true)∧w'=w:=by
 exact GZ
theorem FM(w:World):Calls Tryz.prog 12 #[.string ⟨#[82,76,69,78,71,84,72]⟩] w fun r w'=>r= .returned (.bool true)∧w'=w:=by
 exact GZ
theorem FL(w:World):Calls Tryz.prog 12 #[.string ⟨#[78,79,87]⟩] w fun r w'=>r= .returned (.bool true)∧w'=w:=by
 exact GZ
theorem FK(w:World):Calls Tryz.prog 12 #[.string ⟨#[71,65,80,83]⟩] w fun r w'=>r= .returned (.bool true)∧w'=w:=by
 exact GZ
theorem FJ(s:ByteArray)(h0:(s.toList== [78,82])=false)(h1:(s.toList== [78,70])=false)(h2:(s.toList== [70,83])=false)(h3:(s.toList== [79,70,83])=false)(h4:(s.toList== [79,82,83])=false)(h5:(s.toList== [82,83])=false)(h6:(s.toList== [83,85,66,83,69,80])=false)(h7:(s.toList== [67,79,78,86,70,77,84])=false)(h8:(s.toList== [79,70,77,84])=false)(h9:(s.toList== [82,83,84,65,82,84])=false)(h10:(s.toList== [82,76,69,78,71,84,72])=false)(h11:(s.toList== [78,79,87])=false)(h12:(s.toList== [71,65,80,83])=false)(w:World):Calls Tryz.prog 12 #[.string s] w fun r w'=>r= .returned (.bool false)∧w'=w:=by
 exact GZ
theorem Bl{s:ByteArray}{l:List UInt8}(h:same s (bs l)=true):s=⟨l.toArray⟩:=Cv.1 h
theorem Dk(s:ByteArray)(w:World):Calls Tryz.prog 12 #[.string s] w fun r w'=>r= .returned (.bool (Am s))∧w'=w:=by
 unfold Am specials;simp only [Dn]
 by_cases h0:same s (bs [78,82])=true
 ·rw [if_pos h0,Bl h0];exact KO w
 rw [if_neg h0]
 by_cases h1:same s (bs [78,70])=true
 ·rw [if_pos h1,Bl h1];exact KN w
 rw [if_neg h1]
 by_cases h2:same s (bs [70,83])=true
 ·rw [if_pos h2,Bl h2];exact KM w
 rw [if_neg h2]
 by_cases h3:same s (bs [79,70,83])=true
 ·rw [if_pos h3,Bl h3];exact KJ w
 rw [if_neg h3]
 by_cases h4:same s (bs [79,82,83])=true
 ·rw [if_pos h4,Bl h4];exact KI w
 rw [if_neg h4]
 by_cases h5:same s (bs [82,83])=true
 ·rw [if_pos h5,Bl h5];exact KH w
 rw [if_neg h5]
 by_cases h6:same s (bs [83,85,66,83,69,80])=true
 ·rw [if_pos h6,Bl h6];exact KG w
 rw [if_neg h6]
 by_cases h7:same s (bs [67,79,78,86,70,77,84])=true
 ·rw [if_pos h7,Bl h7];exact KF w
 rw [if_neg h7]
 by_cases h8:same s (bs [79,70,77,84])=true
 ·rw [if_pos h8,Bl h8];exact KD w
 rw [if_neg h8]
 by_cases h9:same s (bs [82,83,84,65,82,84])=true
 ·rw [if_pos h9,Bl h9];exact KC w
 rw [if_neg h9]
 by_cases h10:same s (bs [82,76,69,78,71,84,72])=true
 ·rw [if_pos h10,Bl h10];exact FM w
 rw [if_neg h10]
 by_cases h11:same s (bs [78,79,87])=true
 ·rw [if_pos h11,Bl h11];exact FL w
 rw [if_neg h11]
 by_cases h12:same s (bs [71,65,80,83])=true
 ·rw [if_pos h12,Bl h12];exact FK w
 rw [if_neg h12];simp only [Bool.not_eq_true] at h0 h1 h2 h3 h4 h5 h6 h7 h8 h9 h10 h11 h12;exact FJ s (Ay h0) (Ay h1) (Ay h2) (Ay h3) (Ay h4) (Ay h5) (Ay h6) (Ay h7) (Ay h8) (Ay h9) (Ay h10) (Ay h11) (Ay h12) w
theorem QM(w:World):Calls Tryz.prog 117 #[.string ⟨#[108,101,110,103,116,104]⟩] w fun r w'=>r= .returned (.tuple #[.int .i64 0,.int .i64 1])∧w'=w:=by
 exact KW
theorem QL(w:World):Calls Tryz.prog 117 #[.string ⟨#[115,114,97,110,100]⟩] w fun r w'=>r= .returned (.tuple #[.int .i64 0,.int .i64 1])∧w'=w:=by
 exact KW
theorem QK(w:World):Calls Tryz.prog 117 #[.string ⟨#[114,97,110,100]⟩] w fun r w'=>r= .returned (.tuple #[.int .i64 0,.int .i64 0])∧w'=w:=by
 exact KW
theorem QJ(w:World):Calls Tryz.prog 117 #[.string ⟨#[105,110,100,101,120]⟩] w fun r w'=>r= .returned (.tuple #[.int .i64 2,.int .i64 2])∧w'=w:=by
 exact KW
theorem QI(w:World):Calls Tryz.prog 117 #[.string ⟨#[109,97,116,99,104]⟩] w fun r w'=>r= .returned (.tuple #[.int .i64 2,.int .i64 2])∧w'=w:=by
 exact KW
theorem QH(w:World):Calls Tryz.prog 117 #[.string ⟨#[97,116,97,110,50]⟩] w fun r w'=>r= .returned (.tuple #[.int .i64 2,.int .i64 2])∧w'=w:=by
 exact KW
theorem QG(w:World):Calls Tryz.prog 117 #[.string ⟨#[101,120,112,105,114,101]⟩] w fun r w'=>r= .returned (.tuple #[.int .i64 2,.int .i64 2])∧w'=w:=by
 exact KW
theorem QF(w:World):Calls Tryz.prog 117 #[.string ⟨#[115,117,98,115,116,114]⟩] w fun r w'=>r= .returned (.tuple #[.int .i64 2,.int .i64 3])∧w'=w:=by
 exact KW
theorem QE(w:World):Calls Tryz.prog 117 #[.string ⟨#[115,112,108,105,116]⟩] w fun r w'=>r= .returned (.tuple #[.int .i64 2,.int .i64 3])∧w'=w:=by
 exact KW
theorem QD(w:World):Calls Tryz.prog 117 #[.string ⟨#[115,117,98]⟩] w fun r w'=>r= .returned (.tuple #[.int .i64 2,.int .i64 3])∧w'=w:=by
 exact KW
theorem MB(w:World):Calls Tryz.prog 117 #[.string ⟨#[103,115,117,98]⟩] w fun r w'=>r= .returned (.tuple #[.int .i64 2,.int .i64 3])∧w'=w:=by
 exact KW
theorem MA(w:World):Calls Tryz.prog 117 #[.string ⟨#[115,112,114,105,110,116,102]⟩] w fun r w'=>r= .returned (.tuple #[.int .i64 1,.int .i64 1073741824])∧w'=w:=by
 exact KW
theorem LZ(s:ByteArray)(h0:(s.toList== [108,101,110,103,116,104])=false)(h1:(s.toList== [115,114,97,110,100])=false)(h2:(s.toList== [114,97,110,100])=false)(h3:(s.toList== [105,110,100,101,120])=false)(h4:(s.toList== [109,97,116,99,104])=false)(h5:(s.toList== [97,116,97,110,50])=false)(h6:(s.toList== [101,120,112,105,114,101])=false)(h7:(s.toList== [115,117,98,115,116,114])=false)(h8:(s.toList== [115,112,108,105,116])=false)(h9:(s.toList== [115,117,98])=false)(h10:(s.toList== [103,115,117,98])=false)(h11:(s.toList== [115,112,114,105,110,116,102])=false)(w:World):Calls Tryz.prog 117 #[.string s] w fun r w'=>r= .returned (.tuple #[.int .i64 1,.int .i64 1])∧w'=w:=by
 exact KW
theorem GL(s:ByteArray)(w:World):Calls Tryz.prog 117 #[.string s] w fun r w'=>r= .returned (.tuple #[.int .i64 ((Bz s).1:Nat),.int .i64 ((Bz s).2:Nat)])∧w'=w:=by
 by_cases h0:same s (bs [108,101,110,103,116,104])=true
 ·rw [Bl h0];exact QM w
 by_cases h1:same s (bs [115,114,97,110,100])=true
 ·rw [Bl h1];exact QL w
 by_cases h2:same s (bs [114,97,110,100])=true
 ·rw [Bl h2];exact QK w
 by_cases h3:same s (bs [105,110,100,101,120])=true
 ·rw [Bl h3];exact QJ w
 by_cases h4:same s (bs [109,97,116,99,104])=true
 ·rw [Bl h4];exact QI w
 by_cases h5:same s (bs [97,116,97,110,50])=true
 ·rw [Bl h5];exact QH w
 by_cases h6:same s (bs [101,120,112,105,114,101])=true
 ·rw [Bl h6];exact QG w
 by_cases h7:same s (bs [115,117,98,115,116,114])=true
 ·rw [Bl h7];exact QF w
 by_cases h8:same s (bs [115,112,108,105,116])=true
 ·rw [Bl h8];exact QE w
 by_cases h9:same s (bs [115,117,98])=true
 ·rw [Bl h9];exact QD w
 by_cases h10:same s (bs [103,115,117,98])=true
 ·rw [Bl h10];exact MB w
 by_cases h11:same s (bs [115,112,114,105,110,116,102])=true
 ·rw [Bl h11];exact MA w
 simp only [Bool.not_eq_true] at h0 h1 h2 h3 h4 h5 h6 h7 h8 h9 h10 h11
 have hc:Bz s=(1,1):=by
  unfold Bz;simp only [Dn,h0,h1,h2,h3,h4,h5,h6,h7,h8,h9,h10,h11,Bool.false_eq_true,if_false]
 rw [hc];exact LZ s (Ay h0) (Ay h1) (Ay h2) (Ay h3) (Ay h4) (Ay h5) (Ay h6) (Ay h7) (Ay h8) (Ay h9) (Ay h10) (Ay h11) w
end Go.Proofs.YtkfillfkbhbbjaaGreatDoor
