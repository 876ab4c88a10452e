/- MkW, MkD, MkE, MkF, MkH. -/
import Derived.Test.YtkfillfkbhbbjaaGreatDoorMkG
set_option maxRecDepth 100000
set_option maxHeartbeats 4000000
set_option linter.unusedSimpArgs false
set_option linter.unusedVariables false
namespace Go.Proofs.YtkfillfkbhbbjaaGreatDoor
open Go.RowKit
theorem Je{M:Bs}(hM:Qc M){I:Nat}{fn:Bool}{w:World}(h:Lq M I fn w)(hI:I<1000000000000)(m:Nat)(hm:0<m)(hm2:m≤1000000):
  Calls Tryz.prog 29 #[.pointer (some ⟨M.k,0,none⟩),.int .i64 m] w fun r w'=>∃z:Int,0≤z∧z<m∧r= .returned (.int .i64 z)∧Lq M (I+1) fn w'∧Ac [M.k] w w':=
 (Qo hM h hI m hm hm2).mono fun r w' ⟨p,h1,h2,h3⟩=>⟨p,by omega,by omega,h2,h3⟩
def VS(M:Bs)(K I:Nat)(fn:Bool)(w:World)(r:Ending)(w':World):Prop:=∃s,r= .returned (.string s)∧Lq M (I+K) fn w'∧Ac [M.k] w w'
theorem Kd.mk{b Z:Nat}{W:World}{kd:Int}{nm:ByteArray}{nu:Nat}{a:Option Addr}{l c:Nat}(h:Kd b Z W (.slice a l c))(hk:kd≠4):Nd b (Z+1) W (.agg #[.int .i64 kd,.string nm,.float .f64 nu,.slice a l c,.complex .f64 0 0]):=Nd.mk h hk
theorem Lq.fnc{M:Bs}{I:Nat}{fn:Bool}{w:World}(h:Lq M I fn w):w.cell? ⟨M.k,3,none⟩=some (.bool fn):=by
 obtain ⟨i,n,l,-,-,-,-,h⟩:=h;have:=Aa h.row 3
 simpa using this
theorem BnR.here{M:Bs}{I:Nat}{fn:Bool}{w W:World}(h:BnR M I fn w W):Bn M I fn W W:=Bn.start h.fix h.mak
theorem Bn.here{M:Bs}{I:Nat}{fn:Bool}{w W:World}(h:Bn M I fn w W):Bn M I fn W W:=Bn.start h.fix h.mak
theorem Ez{z:Int}(h1: -9223372036854775808≤z)(h2:z≤9223372036854775807):IntKind.i64.wrap z=z:=by rw [IntWalk.i64_left];unfold wrap64;omega
theorem BnR.tabK{M:Bs}{I:Nat}{fn:Bool}{w W V:World}(h:BnR M I fn w W)(hk:Ac [w.heap.size] W V)(g:Nat)(hg:g<8):∀j,j<Mu g→V.cell? ⟨g,j,none⟩=some (.string (M.tb g j)):=fun j hj=>by
 have h1:=h.lt;have h2:=h.fix.hk;have h3:=h.fix.low;have h4:=h.mak.lt;rw [World.cell?_of_block (w:=W) (a:=⟨g,j,none⟩) (hk.block g (Nat.lt_trans (by omega:g<M.k) h4) qi)];exact h.mak.tab h.fix hg hj
structure ST (M:Bs) (I:Nat) (fn:Bool) (w W:World) (l:List (Nat×Value)):Prop extends BnR M I fn w W where
 nds:∀p∈l,Nd (w.heap.size+1) p.1 W p.2
section
variable {M:Bs} {I J K Z Z' Z1 Z2 Z3 Z4 m:Nat} {fn:Bool} {w W V:World} {l:List (Nat×Value)} {f:FuncId} {args:Array Value} {R:Ending→World→Prop} {v a0 a1 a2 a3 a4 b0 b1 b2 b3 b4 c0 c1 c2 c3 c4 d0 d1 d2 d3 d4:Value} {kd:Int} {nm:ByteArray}
theorem BnR.st(h:BnR M I fn w W):ST M I fn w W []:=⟨h,fun _ h=>nomatch h⟩
theorem ST.push(h:ST M I fn w W l)(hn:Nd (w.heap.size+1) Z W v):ST M I fn w W ((Z,v)::l):=⟨h.toBnR,fun p hp=>by
 rcases List.mem_cons.1 hp with rfl|hp
 ·exact hn
 exact h.nds p hp⟩
theorem ST.top(h:ST M I fn w W ((Z,v)::l)):Nd (w.heap.size+1) Z W v:=h.nds _ (.head _)
theorem ST.pop(h:ST M I fn w W ((Z,v)::l)):ST M I fn w W l:=⟨h.toBnR,fun p hp=>h.nds p (.tail _ hp)⟩
theorem ST.cal(h:ST M I fn w W l)(hm:Lq M J fn V)(hk:Ac [M.k] W V):ST M J fn w V l:=⟨h.toBnR.call hm hk,fun p hp=>h.toBnR.nd hk (h.nds p hp)⟩
theorem ST.kp0(h:ST M I fn w W l)(hk:Ac [] W V):ST M I fn w V l:=⟨h.toBnR.kp hk,fun p hp=>(h.nds p hp).step hk qg⟩
theorem ST.dr(h:ST M I fn w W l):ST M I fn w W.drew l:=h.kp0 (kD (k0 [] W))
theorem Bn.st(h:Bn M I fn w w)(hk:Ac [] w V)(hr:V.heap[w.heap.size]? =some (.cells #[.int .i64 0,.string ⟨#[]⟩,.float .f64 0,.slice none 0 0,.complex .f64 0 0] 50 (0,0)))(k:∀W,ST M I fn w W []→Calls Tryz.prog f args W R):Calls Tryz.prog f args V R:=k _ (BnR.start h hk hr).st
theorem ST.nod(h:ST M I fn w W l)(hc:Calls Tryz.prog f args W fun r w'=>Gc M Z K I fn W r w')(q:∀(W':World) (k:Int) (nm:ByteArray) (nu:Nat) (a:Option Addr) (n c re im:Nat),ST M (I+K) fn w W' ((Z,.agg #[.int .i64 k,.string nm,.float .f64 nu,.slice a n c,.complex .f64 re im])::l)→R (.returned (.agg #[.int .i64 k,.string nm,.float .f64 nu,.slice a n c,.complex .f64 re im])) W'):Calls Tryz.prog f args W R:=
 hc.mono fun r W' ⟨v,e,hn,hm,hk⟩=>by
  subst e;obtain ⟨k1,nm,nu,a,n,c,re,im,rfl⟩:=hn.shape;exact q W' k1 nm nu a n c re im ((h.cal hm hk).push (h.toBnR.node hn))
theorem ST.txt(h:ST M I fn w W l)(hc:Calls Tryz.prog f args W fun r w'=>VS M K I fn W r w')(q:∀W' s,ST M (I+K) fn w W' l→R (.returned (.string s)) W'):Calls Tryz.prog f args W R:=
 hc.mono fun r W' ⟨s,e,hm,hk⟩=>e▸q W' s (h.cal hm hk)
theorem ST.on(h:ST M I fn w W l){m:Int}(hm:0<m∧m≤1000000∧I<1000000000000)(q:∀W' (z:Int),0≤z→z<m→ST M (I+1) fn w W' l→R (.returned (.int .i64 z)) W'):Calls Tryz.prog 29 #[.pointer (some ⟨M.k,0,none⟩),.int .i64 m] W R:=by
 obtain ⟨m,rfl⟩:=Int.eq_ofNat_of_zero_le (Int.le_of_lt hm.1);exact qub
theorem ST.onn(h:ST M I fn w W l){m:Int}(hm:0<m∧m≤1000000∧I<1000000000000)(q:∀W' (z:Nat),(z:Int)<m→ST M (I+1) fn w W' l→R (.returned (.int .i64 z)) W'):Calls Tryz.prog 29 #[.pointer (some ⟨M.k,0,none⟩),.int .i64 m] W R:=by
 obtain ⟨m,rfl⟩:=Int.eq_ofNat_of_zero_le (Int.le_of_lt hm.1);exact (Qo h.fix h.mak hm.2.2 m jh jh).mono fun r W' ⟨z,h1,e,hm,hk⟩=>e▸q W' z jh (h.cal hm hk)
theorem ST.ont(h:ST M I fn w W l){m:Int}(g:Nat)(hm:0<m∧m≤1000000∧I<1000000000000)(hg:g<8∧m≤Mu g)(q:∀W' (z:Nat),(z:Int)<m→W'.cell? ⟨g,z,none⟩=some (.string (M.tb g z))→ST M (I+1) fn w W' l→R (.returned (.int .i64 z)) W'):Calls Tryz.prog 29 #[.pointer (some ⟨M.k,0,none⟩),.int .i64 m] W R:=
 h.onn hm fun W' z hz hs=>q W' z hz (hs.mak.tab hs.fix hg.1 jh) hs
theorem ST.onu(h:ST M I fn w W l)(hm:I<1000000000000)(q:∀W' (z:Nat),(z:Int)<8→W'.cell? ⟨4,z,none⟩=some (.float .f64 (M.tn z))→ST M (I+1) fn w W' l→R (.returned (.int .i64 z)) W'):Calls Tryz.prog 29 #[.pointer (some ⟨M.k,0,none⟩),.int .i64 8] W R:=
 h.onn jh fun W' z hz hs=>q W' z hz (hs.mak.num hs.fix jh) hs
theorem ST.num(h:ST M I fn w W l){u:Nat}(q:∀W' (nu:Nat),ST M I fn w W' ((1,.agg #[.int .i64 1,.string ⟨#[]⟩,.float .f64 nu,.slice none 0 0,.complex .f64 0 0])::l)→R (.returned (.agg #[.int .i64 1,.string ⟨#[]⟩,.float .f64 nu,.slice none 0 0,.complex .f64 0 0])) W'):Calls Tryz.prog 59 #[.float .f64 u] W R:=
 (TN u W).mono fun r W' ⟨e,hk⟩=>e▸q W' u ((h.kp0 hk).push (Nd.leaf _ _ _ _ _ _ _))
theorem ST.leaf(h:ST M I fn w W l):ST M I fn w W ((1,.agg #[.int .i64 kd,.string nm,.float .f64 0,.slice none 0 0,.complex .f64 0 0])::l):=h.push (Nd.leaf _ _ _ _ _ _ _)
theorem ST.n0(h:ST M I fn w W l)(q:∀W',ST M I fn w W' ((1,.agg #[.int .i64 kd,.string nm,.float .f64 0,.slice none 0 0,.complex .f64 0 0])::l)→R (.returned (.agg #[.int .i64 kd,.string nm,.float .f64 0,.slice none 0 0,.complex .f64 0 0])) W'):Calls Tryz.prog 32 #[.int .i64 kd,.string nm,.slice none 0 0] W R:=
 (ON kd nm none 0 0 W).mono fun r W' ⟨e,hk⟩=>e▸q W' (h.kp0 hk).leaf
theorem ST.nk(h:ST M I fn w W l){s:Option Addr}{n c:Nat}(hn:Kd (w.heap.size+1) Z W (.slice s n c))(h4:kd≠4)(q:∀W',ST M I fn w W' ((Z+1,.agg #[.int .i64 kd,.string nm,.float .f64 0,.slice s n c,.complex .f64 0 0])::l)→R (.returned (.agg #[.int .i64 kd,.string nm,.float .f64 0,.slice s n c,.complex .f64 0 0])) W'):Calls Tryz.prog 32 #[.int .i64 kd,.string nm,.slice s n c] W R:=
 (ON kd nm s n c W).mono fun r W' ⟨e,hk⟩=>e▸q W' ((h.kp0 hk).push (Nd.mk (hn.step hk qg) h4))
theorem ST.sn1(h:ST M I fn w W ((Z1,.agg #[a0,a1,a2,a3,a4])::l))(hk:Ac [] W V)(hr:V.heap[W.heap.size]? =some (.cells #[a0,a1,a2,a3,a4] 50 (0,0)))(h4:kd≠4)(q:∀W',ST M I fn w W' ((Z1+1,.agg #[.int .i64 kd,.string nm,.float .f64 0,.slice (some ⟨W.heap.size,0,none⟩) 1 1,.complex .f64 0 0])::l)→R (.returned (.agg #[.int .i64 kd,.string nm,.float .f64 0,.slice (some ⟨W.heap.size,0,none⟩) 1 1,.complex .f64 0 0])) W'):Calls Tryz.prog 32 #[.int .i64 kd,.string nm,.slice (some ⟨W.heap.size,0,none⟩) 1 1] V R:=
 (h.pop.kp0 hk).nk (Kd.row1 hr h.b (h.top.step hk qg)) h4 q
theorem ST.sn2(h:ST M I fn w W ((Z2,.agg #[b0,b1,b2,b3,b4])::(Z1,.agg #[a0,a1,a2,a3,a4])::l))(hk:Ac [] W V)(hr:V.heap[W.heap.size]? =some (.cells #[a0,a1,a2,a3,a4,b0,b1,b2,b3,b4] 50 (0,0)))(h4:kd≠4)(q:∀W',ST M I fn w W' ((Z1+Z2+1,.agg #[.int .i64 kd,.string nm,.float .f64 0,.slice (some ⟨W.heap.size,0,none⟩) 2 2,.complex .f64 0 0])::l)→R (.returned (.agg #[.int .i64 kd,.string nm,.float .f64 0,.slice (some ⟨W.heap.size,0,none⟩) 2 2,.complex .f64 0 0])) W'):Calls Tryz.prog 32 #[.int .i64 kd,.string nm,.slice (some ⟨W.heap.size,0,none⟩) 2 2] V R:=
 (h.pop.pop.kp0 hk).nk (Kd.row2 hr h.b (h.pop.top.step hk qg) (h.top.step hk qg)) h4 q
theorem ST.sn3(h:ST M I fn w W ((Z3,.agg #[c0,c1,c2,c3,c4])::(Z2,.agg #[b0,b1,b2,b3,b4])::(Z1,.agg #[a0,a1,a2,a3,a4])::l))(hk:Ac [] W V)(hr:V.heap[W.heap.size]? =some (.cells #[a0,a1,a2,a3,a4,b0,b1,b2,b3,b4,c0,c1,c2,c3,c4] 50 (0,0)))(h4:kd≠4)(q:∀W',ST M I fn w W' ((Z1+(Z2+Z3)+1,.agg #[.int .i64 kd,.string nm,.float .f64 0,.slice (some ⟨W.heap.size,0,none⟩) 3 3,.complex .f64 0 0])::l)→R (.returned (.agg #[.int .i64 kd,.string nm,.float .f64 0,.slice (some ⟨W.heap.size,0,none⟩) 3 3,.complex .f64 0 0])) W'):Calls Tryz.prog 32 #[.int .i64 kd,.string nm,.slice (some ⟨W.heap.size,0,none⟩) 3 3] V R:=
 (h.pop.pop.pop.kp0 hk).nk (Kd.row3 hr h.b (h.pop.pop.top.step hk qg) (h.pop.top.step hk qg) (h.top.step hk qg)) h4 q
theorem ST.sn4(h:ST M I fn w W ((Z4,.agg #[d0,d1,d2,d3,d4])::(Z3,.agg #[c0,c1,c2,c3,c4])::(Z2,.agg #[b0,b1,b2,b3,b4])::(Z1,.agg #[a0,a1,a2,a3,a4])::l))(hk:Ac [] W V)(hr:V.heap[W.heap.size]? =some (.cells #[a0,a1,a2,a3,a4,b0,b1,b2,b3,b4,c0,c1,c2,c3,c4,d0,d1,d2,d3,d4] 50 (0,0)))(h4:kd≠4)(q:∀W',ST M I fn w W' ((Z1+(Z2+(Z3+Z4))+1,.agg #[.int .i64 kd,.string nm,.float .f64 0,.slice (some ⟨W.heap.size,0,none⟩) 4 4,.complex .f64 0 0])::l)→R (.returned (.agg #[.int .i64 kd,.string nm,.float .f64 0,.slice (some ⟨W.heap.size,0,none⟩) 4 4,.complex .f64 0 0])) W'):Calls Tryz.prog 32 #[.int .i64 kd,.string nm,.slice (some ⟨W.heap.size,0,none⟩) 4 4] V R:=
 (h.pop.pop.pop.pop.kp0 hk).nk (Kd.row4 hr h.b (h.pop.pop.pop.top.step hk qg) (h.pop.pop.top.step hk qg) (h.pop.top.step hk qg) (h.top.step hk qg)) h4 q
theorem ST.ret(h:ST M J fn w W ((Z,.agg #[c0,c1,c2,c3,c4])::l)){F:Func}{a:Act}(hk:Ac [w.heap.size] W V)(hr:V.heap[w.heap.size]? =some (.cells #[c0,c1,c2,c3,c4] 50 (0,0)))(hd:a.defers= [])(hq:∀U:World,U.cell? ⟨w.heap.size,0,none⟩=some c0∧U.cell? ⟨w.heap.size,1,none⟩=some c1∧U.cell? ⟨w.heap.size,2,none⟩=some c2∧U.cell? ⟨w.heap.size,3,none⟩=some c3∧U.cell? ⟨w.heap.size,4,none⟩=some c4→(results F a.tmps).run Tryz.prog U= .ok (.agg #[c0,c1,c2,c3,c4]) U)(hJ:J≤I+K∧Z≤Z'):bodyPost Tryz.prog F (fun r w'=>Gc M Z' K I fn w r w') .ret a V:=
 ⟨hd,_,hq V (by obtain ⟨-,x0,x1,x2,x3,x4,-⟩:=Bv hr;exact ⟨x0,x1,x2,x3,x4⟩),h.toBnR.fin h.top hk hJ.1 hJ.2⟩
structure SO (M:Bs) (I:Nat) (fn:Bool) (w W:World) (Z m:Nat) (v:Value):Prop extends BnR M I fn w W where
 row:∃e,Ow (w.heap.size+1) e Z m W v∧e≤W.heap.size∧w.heap.size+1≤e
structure SN (M:Bs) (I:Nat) (fn:Bool) (w W:World) (Z m:Nat) (v:Value) (Z1:Nat) (x:Value):Prop extends BnR M I fn w W where
 row:∃e,Ow (w.heap.size+1) e Z m W v∧e≤W.heap.size∧w.heap.size+1≤e∧∃e1,Nd e1 Z1 W x∧e≤e1
theorem BnR.so(h:BnR M I fn w W):SO M I fn w W 0 0 (.slice none 0 0):=⟨h,_,Ow.nil _ _ _,Nat.le_refl _,h.b⟩
theorem SO.cal(h:SO M I fn w W Z m v)(hm:Lq M J fn V)(hk:Ac [M.k] W V):SO M J fn w V Z m v:=⟨h.toBnR.call hm hk,by
 obtain ⟨e,h1,h2,h3⟩:=h.row;exact ⟨e,h1.step hk jt,Nat.le_trans h2 hk.size,h3⟩⟩
theorem ST.ro(h:ST M I fn w W ((Z,.agg #[a0,a1,a2,a3,a4])::l))(hk:Ac [] W V)(hr:V.heap[W.heap.size]? =some (.cells #[a0,a1,a2,a3,a4] 50 (0,0)))(q:∀W',SO M I fn w W' Z 1 (.slice (some ⟨W.heap.size,0,none⟩) 1 1)→Calls Tryz.prog f args W' R):Calls Tryz.prog f args V R:=q V ⟨h.toBnR.kp hk,V.heap.size,Ow.one' h.top h.b hk hr,Nat.le_refl _,Nat.le_trans h.b hk.size⟩
theorem SO.on(h:SO M I fn w W Z Z' v){m:Int}(hm:0<m∧m≤1000000∧I<1000000000000)(q:∀W' (z:Int),0≤z→z<m→SO M (I+1) fn w W' Z Z' v→R (.returned (.int .i64 z)) W'):Calls Tryz.prog 29 #[.pointer (some ⟨M.k,0,none⟩),.int .i64 m] W R:=by
 obtain ⟨m,rfl⟩:=Int.eq_ofNat_of_zero_le (Int.le_of_lt hm.1);exact qub
theorem SO.txt(h:SO M I fn w W Z m v)(hc:Calls Tryz.prog f args W fun r w'=>VS M K I fn W r w')(q:∀W' s,SO M (I+K) fn w W' Z m v→R (.returned (.string s)) W'):Calls Tryz.prog f args W R:=
 hc.mono fun r W' ⟨s,e,hm,hk⟩=>e▸q W' s (h.cal hm hk)
theorem SO.nod(h:SO M I fn w W Z m v)(hc:Calls Tryz.prog f args W fun r w'=>Gc M Z1 K I fn W r w')(q:∀(W':World) (k:Int) (nm:ByteArray) (nu:Nat) (a:Option Addr) (n c re im:Nat),SN M (I+K) fn w W' Z m v Z1 (.agg #[.int .i64 k,.string nm,.float .f64 nu,.slice a n c,.complex .f64 re im])→R (.returned (.agg #[.int .i64 k,.string nm,.float .f64 nu,.slice a n c,.complex .f64 re im])) W'):Calls Tryz.prog f args W R:=
 hc.mono fun r W' ⟨v,e,hn,hm,hk⟩=>by
  subst e;obtain ⟨k1,nm,nu,a,n,c,re,im,rfl⟩:=hn.shape;obtain ⟨e,h1,h2,h3⟩:=(h.cal hm hk).row;obtain ⟨e',g1,g2,g3⟩:=h.row;exact q W' k1 nm nu a n c re im ⟨h.toBnR.call hm hk,e',g1.step hk jt,Nat.le_trans g2 hk.size,g3,_,hn,g2⟩
theorem SN.app{ops:Array Oper}{rest:List Oper}{o:Oper}{a:Act}{Q:Exit→Act→World→Prop}{cap:Nat}(h:SN M I fn w W Z m v Z1 (.agg #[c0,c1,c2,c3,c4]))(hgd:o.guard=none)(s y:Operand)(ho:o.op= .call {callee:= .builtin .append,args:= #[s,y],argTypes:= #[47,47]})(hs:a.eval s=v)(hy:a.eval y= .slice (some ⟨W.heap.size,0,none⟩) 1 cap)(hk:Ac [] W V)(hG:V.heap[W.heap.size]? =some (.cells #[c0,c1,c2,c3,c4] 50 (0,0)))(hm:m≤100000)(q:∀W' aa cc,SO M I fn w W' (Z+Z1) (m+1) (.slice aa (m+1) cc)→wpList Tryz.prog ops Q rest (a.put o.dst (.slice aa (m+1) cc)) W'):wpList Tryz.prog ops Q (o::rest) a V:=by
 obtain ⟨e,h1,h2,h3,e1,h4,h5⟩:=h.row;refine XZ hgd s y ho hs hy (h1.step hk qg) hG (h4.step hk qg) h5 (Nat.le_trans h2 hk.size) h3 hm fun v' w' fl hfl hk' hw=> ?_
 obtain ⟨aa,cc,rfl⟩:=hw.slice;refine q w' aa cc ⟨(h.toBnR.kp hk).kpF hk' fun x hx=>(hfl x hx).1,_,hw,Nat.le_refl _,Nat.le_trans h3 (Nat.le_trans h2 (Nat.le_trans hk.size hk'.size))⟩
theorem SO.n{s:Option Addr}{n c:Nat}(h:SO M I fn w W Z m (.slice s n c))(h4:kd≠4)(q:∀W',ST M I fn w W' [(Z+1,.agg #[.int .i64 kd,.string nm,.float .f64 0,.slice s n c,.complex .f64 0 0])]→R (.returned (.agg #[.int .i64 kd,.string nm,.float .f64 0,.slice s n c,.complex .f64 0 0])) W'):Calls Tryz.prog 32 #[.int .i64 kd,.string nm,.slice s n c] W R:=by
 obtain ⟨e,h1,-,-⟩:=h.row;exact h.st.nk h1.kids h4 q
theorem SO.nd{s:Option Addr}{n c:Nat}(h:SO M I fn w W Z m (.slice s n c))(h4:kd≠4):ST M I fn w W [(Z+1,.agg #[.int .i64 kd,.string nm,.float .f64 0,.slice s n c,.complex .f64 0 0])]:=by
 obtain ⟨e,h1,-,-⟩:=h.row;exact h.st.push (Nd.mk h1.kids h4)
end
set_option maxHeartbeats 8000000 in
theorem FN{M:Bs}{I:Nat}{fn:Bool}{w:World}(h:Bn M I fn w w)(hI:I+4≤1000000000000):Calls Tryz.prog 60 #[.pointer (some ⟨M.k,0,none⟩)] w fun r w'=>VS M 4 I fn w r w':=by
 go_enter Tryz.func60,Tryz.ntmps60
 have HB:=h;clear h;have hfn:=Lq.fnc HB.mak;have l_k:=HB.lt
 cases fn with
 |false=>
  exact jwd
 | true=>
  go_wp2_with fail
  refine (Je HB.fix HB.mak jh 2 jh jh).mono ?_;rintro r W ⟨y,h0,h1,rfl,hm,hk⟩;replace HB:=HB.call hm hk;clear hm hk;clear h0 h1
  by_cases hy0:y=0
  ·subst hy0
   go_wp2_with fail
   refine Ap (v:= .string (⟨#[112]⟩)) (fun U=>Ac [] W U) jg (fun U hU=> ?_) rfl (fun U hU=> ?_)
   ·exact Le
   exact YF
  have hy:(y==0)=false:=beq_false_of_ne hy0;exact jwd
set_option maxHeartbeats 8000000 in
theorem MM{M:Bs}{I:Nat}{fn:Bool}{w:World}(h:Bn M I fn w w)(hI:I+2≤1000000000000):Calls Tryz.prog 55 #[.pointer (some ⟨M.k,0,none⟩)] w fun r w'=>VS M 2 I fn w r w':=by
 go_enter Tryz.func55,Tryz.ntmps55
 have HB:=h;clear h;have hfn:=Lq.fnc HB.mak;have l_k:=HB.lt
 cases fn with
 |false=>
  exact jce
 | true=>
  go_wp2_with fail
  refine (Je HB.fix HB.mak jh 3 jh jh).mono ?_;rintro r W ⟨y,h0,h1,rfl,hm,hk⟩;replace HB:=HB.call hm hk;clear hm hk;clear h0 h1
  by_cases hy0:y=0
  ·subst hy0
   go_wp2_with fail
   refine Ap (v:= .string (⟨#[113]⟩)) (fun U=>Ac [] W U) jg (fun U hU=> ?_) rfl (fun U hU=> ?_)
   ·exact Le
   exact YF
  have hy:(y==0)=false:=beq_false_of_ne hy0;exact jce
set_option maxHeartbeats 8000000 in
theorem Wi{M:Bs}{I:Nat}{fn:Bool}{w:World}(h:Bn M I fn w w)(hI:I+6≤1000000000000):Calls Tryz.prog 33 #[.pointer (some ⟨M.k,0,none⟩)] w fun r w'=>Gc M 2 6 I fn w r w':=by
 go_enter Tryz.func33,Tryz.ntmps33
 go_wp2_with fail
 refine h.st jg zb ?_;clear h;intro _ HB
 go_wp2_with fail
 refine HB.on jh ?_;clear HB;intro _ z h0 h1 HB;have hz:z=0∨z=1∨z=2∨z=3∨z=4∨z=5:=by omega
 clear h0 h1
 rcases hz with rfl|rfl|rfl|rfl|rfl|rfl
 ·go_wp2_with fail
  refine HB.onu jh ?_;clear HB;intro _ q hi ht HB
  go_wp2_with fail
  refine HB.num ?_;clear hi ht HB;intro _ _ HB;obtain ⟨l_R,xx⟩:=Bv HB.res;exact YQ
 ·go_wp2_with fail
  refine HB.ont 5 jh zi ?_;exact jte
 ·go_wp2_with fail
  exact qre
 ·go_wp2_with fail
  exact qre
 ·go_wp2_with fail
  exact ZD
 go_wp2_with fail
 exact ZD
set_option maxHeartbeats 8000000 in
theorem Ld{M:Bs}{I:Nat}{fn:Bool}{w:World}(h:Bn M I fn w w)(hI:I+7≤1000000000000):Calls Tryz.prog 56 #[.pointer (some ⟨M.k,0,none⟩)] w fun r w'=>Gc M 2 7 I fn w r w':=by
 go_enter Tryz.func56,Tryz.ntmps56
 go_wp2_with fail
 refine h.st jg zb ?_;clear h;intro _ HB
 go_wp2_with fail
 refine HB.on jh ?_;clear HB;intro _ z h0 h1 HB;clear h0 h1
 by_cases hy0:z=0
 ·subst hy0
  go_wp2_with fail
  refine PE ?_;clear HB;intro _ _ _ _ _ _ _ _ _ HB;obtain ⟨l_R,xx⟩:=Bv HB.res;exact YQ
 have hy:(z==0)=false:=beq_false_of_ne hy0
 go_wp2_with fail
 refine HB.ont 3 jh zi ?_;exact jte
theorem zae{p:Prop}(h:p:=by
 refine Mp ?_;clear HB;intro _ _ _ _ _ _ _ _ _ HB
 go_wp2_with fail
 refine HB.ro jg zb ?_;clear HB;intro _ HB;refine HB.on jh ?_;clear HB;intro _ y h0 h1 HB;clear h0 h1
 by_cases hy0:y=0
 ·subst hy0
  go_wp2_with fail
  refine PE ?_;clear HB;intro _ _ _ _ _ _ _ _ _ HB
  go_wp2_with (
   at_builtin
   go_loud (
    refine HB.app rfl (.tmp 19) (.tmp 22) rfl rfl rfl jg zb jh ?_;clear HB;intro _ _ _ HB))
  go_wp2_with fail
  refine MU ?_;clear HB;intro _ s HB
  go_wp2_with fail
  refine HB.n zi ?_;exact LM
 have hy:(y==0)=false:=beq_false_of_ne hy0
 go_wp2_with fail
 refine MU ?_;clear HB;intro _ s HB
 go_wp2_with fail
 refine HB.n zi ?_;exact LM):p:=h
set_option maxHeartbeats 8000000 in
theorem OU{M:Bs}{I:Nat}{fn:Bool}{w:World}(h:Bn M I fn w w){d:Int}(hd: -1000≤d∧d≤1000){Z K:Nat}(hE:Ro M fn (d -1) Z K)(hI:I+(K+10)≤1000000000000):Calls Tryz.prog 54 #[.pointer (some ⟨M.k,0,none⟩),.int .i64 d] w fun r w'=>Gc M (Z+3) (K+10) I fn w r w':=by
 go_enter Tryz.func54,Tryz.ntmps54
 go_wp2_with fail
 refine h.st jg zb ?_;clear h;intro _ HB
 go_wp2_with fail
 refine HB.on jh ?_;clear HB;intro _ z h0 h1 HB;have hz:z=0∨z=1∨z=2∨z=3∨z=4∨z=5:=by omega
 clear h0 h1
 rcases hz with rfl|rfl|rfl|rfl|rfl|rfl
 ·go_wp2_with fail
  exact zae
 ·go_wp2_with fail
  exact zae
 ·go_wp2_with fail
  refine PE ?_;exact XH
 ·go_wp2_with fail
  exact ZD
 ·go_wp2_with fail
  exact ZD
 go_wp2_with fail
 exact ZD
end Go.Proofs.YtkfillfkbhbbjaaGreatDoor
