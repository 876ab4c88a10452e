/- MkK, MkL, MkM. -/
import Derived.Test.YtkfillfkbhbbjaaGreatDoorMkI
import Derived.Test.YtkfillfkbhbbjaaGreatDoorMkG
import Derived.Deep.RegionLaw
set_option maxRecDepth 100000
set_option maxHeartbeats 4000000
set_option linter.unusedSimpArgs false
set_option linter.unusedVariables false
namespace Go.Proofs.YtkfillfkbhbbjaaGreatDoor
open Go.RowKit
theorem zrd{p:Prop}(h:p:=by
 refine HB.on jh ?_;clear HB;intro _ c h0 h1 HB
 go_wp2_with fail
 have hs0:=HB.b
 go_loopg [5,6] (4) (fun g v j wr=>Abi M fn w I Z K g v j wr)
 case atStart=>exact jyb
 clear HB hs0 h0 h1;obtain ⟨c,m,J,aa,cc,rfl,rfl,hc0,hcm,hcg,hJ,HB⟩:=hrel
 by_cases hlt:0<c
 ·have hcw:IntKind.i64.wrap (c -1)=c -1:=Ez jh jh;have hmk:=Nat.mul_le_mul_right K (show m+1≤3 by omega);have e1:=Nat.succ_mul m K;have e2:=Nat.succ_mul m Z;simp only [Nat.succ_eq_add_one] at e1 e2
  go_wp2_with fail
  refine Mp ?_;clear HB;intro _ _ _ _ _ _ _ _ _ HB
  go_wp2_with (
   at_builtin
   go_loud (
    refine HB.app rfl (.tmp 19) (.tmp 23) rfl rfl rfl jg zb jh ?_;clear HB;intro _ _ _ HB))
  go_wp2_with fail
  go_roundg (gk -1)
  case measure=>omega
  case rel=>exact qyb
 obtain rfl:c=0:=by omega
 replace HB:=HB.nd (kd:=42) (nm:=⟨#[]⟩) zi;have hmz:=Nat.mul_le_mul_right Z (show m≤3 by omega);have hmk:=Nat.mul_le_mul_right K (show m≤3 by omega);obtain ⟨l_R,xx⟩:=Bv HB.res;exact YQ):p:=h
def Abi(M:Bs)(fn:Bool)(w:World)(I Z K:Nat)(g:Nat)(v j:Value)(W:World):Prop:=
 ∃(i:Int) (m J:Nat) (aa:Option Addr) (cc:Nat),v= .slice aa m cc∧j= .int .i64 i∧0≤i∧i+m≤3∧i+1≤g∧J≤I+3+m*K∧SO M J fn w W (m*Z) m (.slice aa m cc)
set_option maxHeartbeats 8000000 in
theorem Vi{M:Bs}{I:Nat}{fn:Bool}{w:World}(h:Bn M I fn w w){d:Int}{Z K Z' K':Nat}(hE:Ro M fn d Z K)(hZ:3*Z+1≤Z'∧Z+4≤Z')(hK:3*K+40≤K')(hI:I+K'≤1000000000000):Calls Tryz.prog 89 #[.pointer (some ⟨M.k,0,none⟩),.int .i64 d] w fun r w'=>Gc M Z' K' I fn w r w':=by
 go_enter Tryz.func89,Tryz.ntmps89
 go_wp2_with fail
 refine h.st jg zb ?_;clear h;intro _ HB
 go_wp2_with fail
 refine HB.on jh ?_;clear HB;intro _ z h0 h1 HB;have hz:z=0∨z=1∨z=2∨z=3∨z=4∨z=5∨z=6∨z=7:=by omega
 clear h0 h1
 rcases hz with rfl|rfl|rfl|rfl|rfl|rfl|rfl|rfl
 ·go_wp2_with fail
  exact zrd
 ·go_wp2_with fail
  exact zrd
 ·go_wp2_with fail
  exact zrd
 ·go_wp2_with fail
  refine HB.n0 ?_;clear HB;intro _ HB
  go_wp2_with fail
  refine Mp ?_;clear HB;intro _ _ _ _ _ _ _ _ _ HB
  go_wp2_with fail
  refine PE ?_;exact qpe
 ·go_wp2_with fail
  refine HB.on jh ?_;clear HB;intro _ y h0 h1 HB;clear h0 h1
  by_cases hy0:y=0
  ·subst hy0
   go_wp2_with fail
   refine MU ?_;clear HB;intro _ s HB
   go_wp2_with fail
   refine HB.n0 ?_;exact LM
  have hy:(y==0)=false:=beq_false_of_ne hy0
  go_wp2_with fail
  refine MU ?_;clear HB;intro _ s HB
  go_wp2_with fail
  refine Mp ?_;exact XH
 ·go_wp2_with fail
  refine Mp ?_;exact XH
 ·go_wp2_with fail
  refine Mp ?_;exact XH
 go_wp2_with fail
 refine Mp ?_;exact XH
theorem ID{ops:Array Oper}{o:Oper}{a:Act}{V:World}{KK:Act→World→Prop}{Q:Exit→Act→World→Prop}{E:Prop}(hgd:o.guard=none)(s y:Operand)(ho:o.op= .call {callee:= .builtin .append,args:= #[s,y],argTypes:= #[47,47]}){b e e1 Z Z1 m G cap:Nat}{v c0 c1 c2 c3 c4:Value}(hs:a.eval s=v)(hy:a.eval y= .slice (some ⟨G,0,none⟩) 1 cap)(hO:Ow b e Z m V v)(hG:V.heap[G]? =some (.cells #[c0,c1,c2,c3,c4] 50 (0,0)))(hn:Nd e1 Z1 V (.agg #[c0,c1,c2,c3,c4]))(he:e≤e1)(heV:e≤V.heap.size)(hb:b≤e)(hm:m≤100000)(h:∀v' w' fl,(∀x∈fl,b≤x∧x<e)→Ac fl V w'→Ow b w'.heap.size (Z+Z1) (m+1) w' v'→KK (a.put o.dst v') w'):if Region.wanted o (yielded ops a.tmps)=true then Oper.wp Tryz.prog o a V KK Q else E:=by
 obtain ⟨ns,q1,q2,q3,q4⟩:=hO;obtain ⟨n,p1,p2,p3⟩:=hn;obtain ⟨i,hi,hz,hsz,hby⟩:=Wo;refine Fk Dr hgd s y 47 ho Tryz.underlying47 hi hz hsz hby rfl zi zi hs hy q2 (c:= [c0,c1,c2,c3,c4]) hG ⟨rfl,p1.bound⟩ (fun g h1 h2=>by omega) (fun g h=>h.2) (fun g h=>by omega) jh jh fun v' w' fl hfl hk hw=>h v' w' fl hfl hk ⟨ns++ [n],by simp [q1],hw.to Dr fun x hx=> ?_,Na q3 p2, ?_⟩
 ·have:=hk.size
  rcases hx with hx|hx|hx<;>omega
 rw [Jt];omega
def Eu(f:Nat)(M:Bs)(fn:Bool)(d:Int)(Z K:Nat):Prop:=∀(I:Nat) (w:World),Bn M I fn w w→I+K≤1000000000000→Calls Tryz.prog f #[.pointer (some ⟨M.k,0,none⟩),.int .i64 d] w fun r w'=>Gc M Z K I fn w r w'
def Abn(M:Bs)(fn:Bool)(w:World)(I Z K:Nat)(g:Nat)(j:Value)(W:World):Prop:=
 ∃(i:Int) (m e J:Nat) (v:Value),j= .int .i64 i∧0≤i∧i+m≤3∧i+1≤g∧J≤I+3+m*K∧BnR M J fn w W∧W.heap[w.heap.size+1]? =some (.cells #[.int .i64 30,.string ⟨#[]⟩,.float .f64 0,v,.complex .f64 0 0] 50 (0,0))∧Ow (w.heap.size+2) e (m*Z) m W v∧e≤W.heap.size∧w.heap.size+2≤e
def EW(M:Bs)(Z K I:Nat)(fn:Bool)(w:World)(r:Ending)(w':World):Prop:=∃a m c,m≤3∧r= .returned (.agg #[.int .i64 30,.string ⟨#[]⟩,.float .f64 0,.slice a m c,.complex .f64 0 0])∧Ow w.heap.size w'.heap.size Z m w' (.slice a m c)∧Lq M (I+K) fn w'∧Ac [M.k] w w'
theorem Ow.low{b b' e e' Z Z' m:Nat}{W:World}{v:Value}(h:Ow b e Z m W v)(hb:b'≤b)(he:e≤e')(hZ:Z≤Z'):Ow b' e' Z' m W v:=by
 obtain ⟨ns,h1,h2,h3,h4⟩:=h;exact ⟨ns,h1,(h2.to Dr (fun x hx=>⟨Nat.le_trans hb hx.1,Nat.lt_of_lt_of_le hx.2 he⟩)).base hb,h3,by omega⟩
theorem EW.fin{M:Bs}{I J K Z Z' m e c:Nat}{a:Option Addr}{fn:Bool}{w W U:World}(h:BnR M J fn w W)(hO:Ow (w.heap.size+2) e Z m W (.slice a m c))(he:e≤W.heap.size)(_hb:w.heap.size+2≤e)(hU:Ac [w.heap.size] W U)(hJ:J≤I+K)(hZ:Z≤Z')(hm:m≤3):EW M Z' K I fn w (.returned (.agg #[.int .i64 30,.string ⟨#[]⟩,.float .f64 0,.slice a m c,.complex .f64 0 0])) U:=
 ⟨a,m,c,hm,rfl,(hO.step hU (fun x hx=>by simp at hx;omega)).low jh (Nat.le_trans he hU.size) hZ,(h.mak.kp h.fix hU jt (by have:=h.lt;have:=h.fix.hk;simp;omega)).to hJ,h.keep.trans hU qg⟩
theorem EW.node{M:Bs}{I K Z:Nat}{fn:Bool}{w w':World}{r:Ending}(h:EW M Z K I fn w r w'):Gc M (Z+1) K I fn w r w':=by
 obtain ⟨a,m,c,-,rfl,hO,hm,hk⟩:=h;exact ⟨_,rfl,hO.kids.mk zi,hm,hk⟩
set_option maxHeartbeats 8000000 in
theorem Td{M:Bs}{I:Nat}{fn:Bool}{w:World}(h:Bn M I fn w w){d:Int}{Z K Z' K':Nat}(hS:Eu 58 M fn d Z K)(hZ:3*Z≤Z')(hK:3*K+40≤K')(hI:I+K'≤1000000000000):Calls Tryz.prog 31 #[.pointer (some ⟨M.k,0,none⟩),.int .i64 d] w fun r w'=>EW M Z' K' I fn w r w':=by
 have H0:=zh h;have HST:=zh hS;clear h hS
 go_enter Tryz.func31,Tryz.ntmps31
 have H_lt:=zh H0.1.lt
 go_wp2_with fail
 refine An (fun V=>Ac [] w V∧V.heap[w.heap.size]? =some (.cells #[.int .i64 0,.string ⟨#[]⟩,.float .f64 0,.slice none 0 0,.complex .f64 0 0] 50 (0,0))∧V.heap[w.heap.size+1]? =some (.cells #[.int .i64 30,.string ⟨#[]⟩,.float .f64 0,.slice none 0 0,.complex .f64 0 0] 50 (0,0))) ⟨jg,jn,jn⟩ ?_;rintro w1 ⟨hk,hr,hrB⟩;have HB1:=zh (BnR.start H0.1 hk hr);clear hk hr H0;refine (Je HB1.1.fix HB1.1.mak jh 3 jh jh).mono ?_;rintro r w2 ⟨y,h0_y,h1_y,rfl,hm,hk⟩;have HB2:=zh (HB1.1.call hm hk);have hrB2:=hk.at hrB qdb;clear hk hm HB1 hrB;have hyw:IntKind.i64.wrap (1+y)=1+y:=Ez jh jh
 go_wp2_with fail
 have hs2:=Ad hrB2
 go_loopg [6] (4) (fun g j wr=>Abn M fn w I Z K g j wr)
 case atStart=>exact ⟨1+y,0,w2.heap.size,_,_,rfl,by omega,by omega,by omega,by omega,HB2.1,hrB2,by rw [Nat.zero_mul];exact Ow.nil _ _ _,Nat.le_refl _,hs2⟩
 clear hrB2 HB2 hs2 h0_y h1_y hyw;obtain ⟨c,m,e,J,v,rfl,hc0,hcm,hcg,hJ,hB,r_r,hO,he,he2⟩:=hrel;have HBr:=zh hB;have HO:=zh hO;have HEE:=zh he;have H_b:=zh he2;clear hB hO he he2;obtain ⟨aa,cc,rfl⟩:=HO.1.slice
 by_cases hlt:0<c
 ·have hcw:IntKind.i64.wrap (c -1)=c -1:=Ez jh jh;have hmk:=Nat.mul_le_mul_right K (show m+1≤3 by omega);have e1:=Nat.succ_mul m K;have e2:=Nat.succ_mul m Z;simp only [Nat.succ_eq_add_one] at e1 e2;have HBd:=zh (HBr.1.kp (kD (k0 [] wr)));have HOd:=zh (HO.1.step (kD (k0 [] wr)) qg);have HRB:=zh r_r;have HCA:Hd (Calls Tryz.prog 58 #[.pointer (some ⟨M.k,0,none⟩),.int .i64 d] wr.drew fun r w'=>∃v,r= .returned v∧Nd wr.drew.heap.size Z w' v∧Lq M (J+K) fn w'∧Ac [M.k] wr.drew w'):=zh (HST.1 J wr.drew HBd.1.here jh);have xbr0:=Aa r_r 0;have xbr1:=Aa r_r 1;have xbr2:=Aa r_r 2;have xbr3:=Aa r_r 3;have xbr4:=Aa r_r 4;have ybr3:=Ab r_r 3;have lbr:=Ad r_r;simp at xbr0 xbr1 xbr2 xbr3 xbr4;clear r_r
  go_wp2_with fail
  go_region_law (first
   |(
       (fail_if_success (have hm9:=HN7))
       refine Bd (f:=58) (vals:= #[.pointer (some ⟨M.k,0,none⟩),.int .i64 d]) rfl _ rfl qh HCA.1 ?_;rintro v w7 ⟨hn,hm,hk⟩;obtain ⟨k7,nm7,nu7,a7,l7,c7,re7,im7,rfl⟩:=hn.shape;have r_7:=hk.at (show wr.drew.heap[w.heap.size+1]? =_ from HRB.1) qdb;have HN7:=zh hn;have HB7:=zh (HBd.1.call hm hk);have HO7:=zh (HOd.1.step hk qdb);have HE7:=zh (Nat.le_trans HEE.1 hk.size);clear hn hm hk;have xb70:=Aa r_7 0;have xb71:=Aa r_7 1;have xb72:=Aa r_7 2;have xb73:=Aa r_7 3;have xb74:=Aa r_7 4;have yb73:=Ab r_7 3;have lb7:=Ad r_7;simp at xb70 xb71 xb72 xb73 xb74;have HR7:=zh r_7;clear r_7)
   |(
       refine Gr (fun V=>Ac [] w7 V∧V.heap[w7.heap.size]? =some (.cells #[.int .i64 k7,.string nm7,.float .f64 nu7,.slice a7 l7 c7,.complex .f64 re7 im7] 50 (0,0))) ⟨jg,jn⟩ ?_;rintro wq ⟨hkq,cG⟩;refine ID rfl (.tmp 16) (.tmp 20) rfl rfl rfl (HO7.1.step hkq qg) cG (HN7.1.step hkq qg) HEE.1 (Nat.le_trans HE7.1 hkq.size) H_b.1 jh ?_;rintro va wa fl hfl hka hown;obtain ⟨aaq,ccq,rfl⟩:=hown.slice;have r_a:=hka.at (hkq.at HR7.1 qg) (fun hx=>by have:=hfl _ hx;omega);have HBa:=zh ((HB7.1.kp hkq).kpF hka (fun x hx=>by have:=hfl _ hx;omega));have HOa:=zh hown;have HRa:=zh r_a;clear hfl hka hown hkq cG;have xba0:=Aa r_a 0;have xba1:=Aa r_a 1;have xba2:=Aa r_a 2;have xba3:=Aa r_a 3;have xba4:=Aa r_a 4;have yba3:=Ab r_a 3;have lba:=Ad r_a;simp at xba0 xba1 xba2 xba3 xba4;clear r_a))
  all_goals
   go_wp2_with fail
   go_roundg (gk -1)
   case measure=>omega
   refine Ch (fun V=>Ac [w.heap.size+1] wa V∧V.heap[w.heap.size+1]? =some (.cells #[.int .i64 30,.string ⟨#[]⟩,.float .f64 0,.slice aaq (m+1) ccq,.complex .f64 0 0] 50 (0,0))) ⟨jg,(by simp only [World.size_alloc,World.size_setCell,World.size_drew,Nat.left_eq_add,Nat.add_eq_left,Nat.one_ne_zero,hS,hA,hD,hM,reduceIte,Option.map_some,Obj.put,HRa.1]<;>rfl)⟩ ?_;rintro wz ⟨hk,hr⟩;have h9:=HBa.1.b;have h8:=Ad HRa.1;exact ⟨c -1,m+1,wa.heap.size,_,_,rfl,by omega,by omega,by omega,by omega,HBa.1.kpF hk (fun x hx=>by simp at hx;omega),hr,by rw [e2];exact HOa.1.step hk (fun x hx=>by simp at hx;omega),hk.size,by omega⟩
 obtain rfl:c=0:=by omega
 have HN:Hd (Nd (w.heap.size+1) (m*Z+1) wr (.agg #[.int .i64 30,.string ⟨#[]⟩,.float .f64 0,.slice aa m cc,.complex .f64 0 0])):=zh ((HO.1.kids.mk zi).to jh (Nat.le_refl _));have hmz:=Nat.mul_le_mul_right Z (show m≤3 by omega);have hmk:=Nat.mul_le_mul_right K (show m≤3 by omega);have xbr0:=Aa r_r 0;have xbr1:=Aa r_r 1;have xbr2:=Aa r_r 2;have xbr3:=Aa r_r 3;have xbr4:=Aa r_r 4;have ybr3:=Ab r_r 3;have lbr:=Ad r_r;simp at xbr0 xbr1 xbr2 xbr3 xbr4;clear r_r;obtain ⟨l_R,xR⟩:=Bv HBr.1.res
 go_wp2_with fail
 refine Ap (v:= .agg #[.int .i64 30,.string ⟨#[]⟩,.float .f64 0,.slice aa m cc,.complex .f64 0 0]) (fun U=>Ac [w.heap.size] wr U∧U.heap[w.heap.size]? =some (.cells #[.int .i64 30,.string ⟨#[]⟩,.float .f64 0,.slice aa m cc,.complex .f64 0 0] 50 (0,0))) ⟨jg,(ja HBr.1.res)⟩ (fun U hU=> ?_) rfl (fun U hU=> ?_)
 ·obtain ⟨-,x0,x1,x2,x3,x4,-⟩:=Bv hU.2;exact jpb
 exact EW.fin HBr.1 HO.1 HEE.1 H_b.1 hU.1 jh jh jh
theorem Te{M:Bs}{I:Nat}{fn:Bool}{w:World}(h:Bn M I fn w w){d:Int}{Z K Z' K':Nat}(hS:Eu 58 M fn d Z K)(hZ:3*Z+1≤Z')(hK:3*K+40≤K')(hI:I+K'≤1000000000000):Calls Tryz.prog 31 #[.pointer (some ⟨M.k,0,none⟩),.int .i64 d] w fun r w'=>Gc M Z' K' I fn w r w':=
 (Td h hS (Nat.le_refl _) hK hI).mono fun r w' hb=>(hb.node).to hZ (Nat.le_refl _)
set_option maxHeartbeats 8000000 in
theorem Wg{M:Bs}{I:Nat}{fn:Bool}{w:World}(h:Bn M I fn w w){d:Int}{Z K Z' K':Nat}(hB:Eu 31 M fn d Z K)(hZ:Z≤Z')(hK:K+10≤K')(hI:I+K'≤1000000000000):Calls Tryz.prog 90 #[.pointer (some ⟨M.k,0,none⟩),.int .i64 d] w fun r w'=>Gc M Z' K' I fn w r w':=by
 have H0:=zh h;clear h
 go_enter Tryz.func90,Tryz.ntmps90
 have HBK:=zh hB;have H_lt:=zh H0.1.lt;clear hB;obtain ⟨i,nn,l,hi,hn,hl1,hl2,hmk⟩:=H0.1.mak;obtain ⟨l_k,x0,x1,x2,x3,x4,y0,y1,y2,y3,y4⟩:=Bv hmk.row;have HMK:=zh hmk;have hnk:M.k≠w.heap.size:=Nat.ne_of_lt l_k;clear hmk;have hnw:IntKind.i64.wrap (l+1)=l+1:=Ez jh jh
 go_upto_region 2 with fail
 refine Bj (fun W=>Ac [M.k] w W∧W.heap[M.k]? =some (.cells #[.slice M.la M.ln M.lc,.int .i64 i,.int .i64 nn,.bool fn,.int .i64 (l+1)] 77 (0,0))∧W.heap[w.heap.size]? =some (.cells #[.int .i64 0,.string ⟨#[]⟩,.float .f64 0,.slice none 0 0,.complex .f64 0 0] 50 (0,0))) ⟨jg,qo,jp⟩ ?_;rintro w1 ⟨hk,hr,hz⟩;have HB1:Hd (BnR M (I+1) fn w w1):=zh ⟨H0.1.call ⟨i,nn,l+1,by omega,by omega,by omega,by omega,HMK.1.upd H0.1.fix hk hr⟩ hk,hz⟩;clear x0 x1 x2 x3 x4 y0 y1 y2 y3 y4 l_k hk hr hz HMK H0 hi hn hl1 hl2 hnw hnk
 go_wp2_with fail
 refine (HBK.1 _ _ HB1.1.here jh).mono ?_;rintro r w1_ ⟨v,rfl,hn,hm,hk⟩;obtain ⟨k1,nm1,nu1,a1,l1,c1,re1,im1,rfl⟩:=hn.shape;have HB2:=zh (HB1.1.call hm hk);have HN1:=zh (HB1.1.node hn);clear hn;clear hk hm HB1;have hsz:=HB2.1.b;obtain ⟨i,nn,l,hi,hn,hl1,hl2,hmk⟩:=HB2.1.mak;obtain ⟨l_k,x0,x1,x2,x3,x4,y0,y1,y2,y3,y4⟩:=Bv hmk.row;have HMK:=zh hmk;have hnk:M.k≠w1_.heap.size:=Nat.ne_of_lt l_k;clear hmk;have hnw:IntKind.i64.wrap (l -1)=l -1:=Ez jh jh
 go_upto_region 4 with fail
 refine Bj (fun W=>Ac [M.k] w1_ W∧W.heap[M.k]? =some (.cells #[.slice M.la M.ln M.lc,.int .i64 i,.int .i64 nn,.bool fn,.int .i64 (l -1)] 77 (0,0))∧W.heap[w1_.heap.size]? =some (.cells #[.int .i64 k1,.string nm1,.float .f64 nu1,.slice a1 l1 c1,.complex .f64 re1 im1] 50 (0,0))) ⟨jg,(by simp only [hS,hA,hD,hM,World.size_setCell,World.size_alloc,hnk,reduceIte,Option.map_some,Obj.put,HMK.1.row]<;>rfl),(by simp only [hS,hA,hD,hM,World.size_setCell,World.size_alloc,Ne.symm hnk,reduceIte,Option.map_some,Obj.put]<;>rfl)⟩ ?_;rintro w3 ⟨hk,hr,hz⟩;have HB3:Hd (BnR M (I+1+K+1) fn w w3):=zh (HB2.1.call ⟨i,nn,l -1,by omega,by omega,by omega,by omega,HMK.1.upd HB2.1.fix hk hr⟩ hk);have HN3:=zh (HB2.1.nd hk HN1.1);clear x0 x1 x2 x3 x4 y0 y1 y2 y3 y4 l_k hk hr HMK hi hn hl1 hl2 hnw hnk HB2 HN1;obtain ⟨lz,uu⟩:=Bv hz;clear hz;obtain ⟨l_R,xR⟩:=Bv HB3.1.res
 go_wp2_with fail
 refine Ap (v:= .agg #[.int .i64 k1,.string nm1,.float .f64 nu1,.slice a1 l1 c1,.complex .f64 re1 im1]) (fun U=>Ac [w.heap.size] w3 U∧U.heap[w.heap.size]? =some (.cells #[.int .i64 k1,.string nm1,.float .f64 nu1,.slice a1 l1 c1,.complex .f64 re1 im1] 50 (0,0))) ⟨jg,(ja HB3.1.res)⟩ (fun U hU=> ?_) rfl (fun U hU=> ?_)
 ·obtain ⟨-,x0,x1,x2,x3,x4,-⟩:=Bv hU.2;exact jpb
 exact HB3.1.fin HN3.1 hU.1 jh jh
end Go.Proofs.YtkfillfkbhbbjaaGreatDoor
