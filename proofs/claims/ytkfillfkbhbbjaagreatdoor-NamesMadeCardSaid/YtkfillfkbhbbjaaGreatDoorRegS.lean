/- DWl, DWm, DWp, DWs, RegS. -/
import Derived.Test.YtkfillfkbhbbjaaGreatDoorDWk
import Derived.Test.YtkfillfkbhbbjaaGreatDoorDLawB
import Derived.StillTailTactics
import Derived.Test.YtkfillfkbhbbjaaGreatDoorKit
import Derived.Orders
import Derived.OrdersHeld
set_option maxRecDepth 100000
set_option maxHeartbeats 4000000
set_option linter.unusedSimpArgs false
set_option linter.unusedVariables false
namespace Go.Proofs.YtkfillfkbhbbjaaGreatDoor
open Go.RowKit
theorem Zr(x:DX)(e:Int)(re im:Nat):(Dd x e re im).fn=x.fn∧(Dd x e re im).kind=x.kind∧(Dd x e re im).loops=x.loops:=by unfold Dd;split<;>exact ⟨rfl,rfl,rfl⟩
theorem Et(x:DX)(f:Option Ic):(Ce x f).fn=x.fn∧(Ce x f).kind=x.kind∧(Ce x f).loops=x.loops:=by
 cases f with
 |none=>exact ⟨rfl,rfl,rfl⟩
 |some f=>exact Zr _ _ _ _
theorem Jn{x:DX}(h:x.e≠0)(f:Option Ic):Ce x f=x:=by
 cases f with
 |none=>rfl
 |some f=>show Dd _ _ _ _=x;unfold Dd;rw [if_neg h]
theorem Gg{x:DX}{a b:Option Ic}(ha:Cz a):Ce x (a.or b)=Ce (Ce x a) b:=by
 cases a with
 |none=>rfl
 | some f=>
  have hf:=ha f rfl
  by_cases h:x.e=0
  ·have:(Ce x (some f)).e≠0:=by show (Dd _ _ _ _).e≠0;unfold Dd;rw [if_pos h];exact hf
   rw [Jn this];rfl
  rw [Jn h,Jn h,Jn h]
theorem GU(x:DX)(lo:Int)(f:Option Ic):Ce {x with loops:=lo} f={Ce x f with loops:=lo}:=by
 cases f with
 |none=>rfl
 |some f=>
  show Dd _ _ _ _={Dd x _ _ _ with loops:=lo}
  by_cases h:x.e=0
  ·simp [Dd,h]
  simp [Dd,h]
theorem BB(lp:Bool)(i:Nat)(k:Af):Cz (Pu lp i k):=by unfold Pu;exact Cz.ite (Cz.some zi) Cz.none
theorem Hb:∀{l:List Af} {n:Af},n∈l→Bo n≤Ar l
 | x::l,n,h=>by
   rw [Ar]
   rcases List.mem_cons.1 h with rfl|h
   ·omega
   have:=Hb h;omega
def RG(K:Br)(st:DS)(fn:Nat)(N:Nat):Prop:=∀(n:Af),Bo n≤N→∀(A:DA) (x:DX) (w:World) (v:Value),DK K A x st w→Au K.w0 (fun _=>True) n v→x.fn=(fn:Int) -1→x.kind≤7→0≤x.loops→x.loops+(Bo n:Int)≤900000→
 Calls Tryz.prog 83 #[.pointer (some ⟨K.c,0,none⟩),v] w fun r w'=>r= .returned (.tuple #[])∧DK K A (Ce x (Dg K.g fn x.kind x.loops n)) st w'∧Bh w w'
def WaI(K:Br)(A:DA)(st:DS)(fn:Nat)(kind lo:Int)(lp:Bool)(kids:List Af)(xe:DX)(w:World)(B:Nat)(o:Obj)(g:Nat)(j:Value)(W:World):Prop:=
 ∃(k:Nat) (x:DX),j= .int .i64 k∧k≤kids.length∧g=kids.length+1 -k∧Ce x (Cg K.g fn kind lo lp k (kids.drop k))=xe∧x.fn=(fn:Int) -1∧x.kind=kind∧x.loops=lo∧DK K A x st W∧Bh w W∧W.heap[B]? =some o
theorem Aad{p:Prop}(h:p:=by
 obtain ⟨l_B,x0,x1,x2,x3,x4,z0,z1,z2,z3,z4⟩:=Bv HB.1;obtain ⟨g3,o3,fm3,na3,nc3,hna3,d0,d1,d2,d3,d4,hn,l2⟩:=Iy HD.1.keep HKD.1 hlt
 cases hna3
 have HN:=zh hn;clear hn;generalize kids[k]=kk at*
 go_wp2_with fail
 refine (HREC.1 kk HSZ.1 _ _ _ _ HD.1 HN.1 HX1.1 HX2.1 HX3.1 HX4.1).mono ?_;rintro r w9 ⟨rfl,hd,hs⟩;have HD9:=zh hd;have HS9:=zh (HS.1.trans hs);have HB9:=zh (hs.at HB.1 qg);clear hd hs l_B x0 x1 x2 x3 x4 z0 z1 z2 z3 z4 d0 d1 d2 d3 d4 l2
 go_wp2_with fail
 go_roundg f
 case measure=>omega
 case rel=>exact ⟨k+1,_,by first|rfl|(simp;done)|(simp;omega),by omega,by omega,HE.1,by rw [(Et _ _).1];exact HX1.1,by rw [(Et _ _).2.1];exact HXk.1,by rw [(Et _ _).2.2];exact HXl.1,HD9.1.kp0 Av,HS9.1.add Av,by first|exact HB9.1|exact Kj HB9.1⟩):p:=h
theorem Abb{p:Prop}(h:p:=by
 first
 | (refine Cq (v:= .tuple #[]) (fun W=>Ac [] wr W) Av (fun w1 hW=>by simp [results,Jo,go_sem]) rfl (fun w1 hW=>⟨rfl, ?_,HS.1.add hW⟩)
    have:=HD.1.kp0 hW;have he:({y with loops:=x.loops}:DX)=y:=by have h1:=HXl.1;have h2:=HLX.1;cases y;simp_all
    rw [he];exact this)
 | (refine Cq (v:= .tuple #[]) (fun W=>Ac [K.c] wr W∧W.heap[K.c]? =some (dC K A {y with loops:=lo -1} st)) ⟨Av,Kj HD.1.row⟩ (fun w1 hW=>by simp [results,Jo,go_sem]) rfl (fun w1 hW=>⟨rfl, ?_,HS.1.trans (HD.1.step hW.1)⟩)
    have:=HD.1.upd hK hW.1 hW.2;have he:x.loops=lo -1:=HLX.1;rw [he];exact this)):p:=h
theorem WF{p:Prop}(h:p:=by
 go_loopg [4] (kids.length+1) (fun g j wr=>WaI K A st fn x.kind lo (kd==34) kids xe w w.heap.size (Gm kd tx fm na kids.length nc re im) g j wr)
 case atStart=>exact ⟨0,_,rfl,Nat.zero_le _,rfl,HE0.1,HX1.1,HXk.1,HXl.1,HD.1,HS.1,HB.1⟩
 obtain ⟨k,y,rfl,hk1,hk2,he,hx1,hxk,hxl,hd,hs,hb⟩:=hrel;replace HD:=zh hd;replace HS:=zh hs;replace HB:=zh hb;replace HX1:=zh hx1;replace HXk:=zh hxk;replace HXl:=zh hxl;have HE:=zh he;clear hd hs hb hx1 hxk hxl he HE0
 by_cases hlt:k<kids.length
 ·cases gk with
  |zero=>omega
  | succ f=>
   have hsz:=zh (show Bo kids[k]≤N∧y.loops+(Bo kids[k]:Int)≤900000 by have:=Hb (List.getElem_mem hlt);have:=HSZ.1;have:=HXl.1;omega);replace HSZ:=zh hsz.1.1;have HX2:=zh (show y.kind≤7 by rw [HXk.1];exact HK7.1);have HX3:=zh (show 0≤y.loops by rw [HXl.1];exact HLO.1);have HX4:=zh hsz.1.2;clear hsz
   replace HE:=zh (show Ce (Ce (Ce y (Pu (kd==34) k kids[k])) (Dg K.g fn y.kind y.loops kids[k])) (Cg K.g fn x.kind lo (kd==34) (k+1) (kids.drop (k+1)))=xe by
    have h:=HE.1;rw [List.drop_eq_getElem_cons hlt,Cg,Gg (Cz.or (BB _ _ _) (Kr _ _ _ _ _)),Gg (BB _ _ _)] at h;rw [HXk.1,HXl.1];exact h)
   obtain ⟨l_B,x0,x1,x2,x3,x4,z0,z1,z2,z3,z4⟩:=Bv HB.1;obtain ⟨l_c,c0,c1,c2,c3,c4,c5,c6,c7,c8,c9,y0,y1,y2,y3,y4,y5,y6,y7,y8,y9⟩:=Ke HD.1.row;obtain ⟨g3,o3,fm3,na3,nc3,hna3,d0,d1,d2,d3,d4,hn,l2⟩:=Iy HD.1.keep HKD.1 hlt;subst hna3;clear c0 c1 c2 c3 c4 c6 c7 c8 c9 y0 y1 y2 y3 y4 y5 y6 y7 y8 y9 hn;generalize hkk:kids[k]=kk at d0 d1 d2 d3 d4
   go_upto_region 9 with fail
   obtain ⟨b,hb⟩:∃b,b=(decide (kd=34)&&(decide (k%2=0)&&((decide (kk.kind=36)||decide (kk.kind=37))&&decide (y.e=0)))):=⟨_,rfl⟩
   go_cut [59] (fun s W=>s= .bool b∧Ac [] wr W)
   case first=>
    have hm:((k:Int)%2==0)=decide (k%2=0):=by rw [Bool.eq_iff_iff];simp;omega
    have h36:(kk.kind==36)=decide (kk.kind=36):=by rw [Bool.eq_iff_iff];simp
    have h37:(kk.kind==37)=decide (kk.kind=37):=by rw [Bool.eq_iff_iff];simp
    have he0:(y.e==0)=decide (y.e=0):=by rw [Bool.eq_iff_iff];simp
    have hk4:(kd==34)=decide (kd=34):=by rw [Bool.eq_iff_iff];simp
    have HBV:=zh hb;clear hb
    by_cases q0:kd=34
    ·rw [decide_eq_true q0] at hk4 HBV
     by_cases q1:k%2=0
     ·rw [decide_eq_true q1] at hm HBV
      by_cases q2:kk.kind=36
      ·rw [decide_eq_true q2] at h36 HBV
       by_cases q3:y.e=0
       ·rw [decide_eq_true q3] at he0 HBV;clear q0 q1 q2 q3
        go_wp2_with fail
        go_meet
        case rel=>exact WV
       rw [decide_eq_false q3] at he0 HBV;clear q0 q1 q2 q3
       go_wp2_with fail
       go_meet
       case rel=>exact WV
      rw [decide_eq_false q2] at h36 HBV
      by_cases q4:kk.kind=37
      ·rw [decide_eq_true q4] at h37 HBV
       by_cases q3:y.e=0
       ·rw [decide_eq_true q3] at he0 HBV;clear q0 q1 q2 q3 q4
        go_wp2_with fail
        go_meet
        case rel=>exact WV
       rw [decide_eq_false q3] at he0 HBV;clear q0 q1 q2 q3 q4
       go_wp2_with fail
       go_meet
       case rel=>exact WV
      rw [decide_eq_false q4] at h37 HBV;clear q0 q1 q2 q4
      go_wp2_with fail
      go_meet
      case rel=>exact WV
     rw [decide_eq_false q1] at hm HBV;clear q0 q1
     go_wp2_with fail
     go_meet
     case rel=>exact WV
    rw [decide_eq_false q0] at hk4 HBV;clear q0
    go_wp2_with fail
    go_meet
    case rel=>exact WV
   obtain ⟨rfl,hk⟩:=hcut;replace HD:=zh (HD.1.kp0 hk);replace HS:=zh (HS.1.add hk);replace HB:=zh (hk.at HB.1 qg);clear hk l_B x0 x1 x2 x3 x4 z0 z1 z2 z3 z4 d0 d1 d2 d3 d4 l2 l_c c5;generalize wc=wl at*
   cases b with
   |true=>
    replace hb:=hb.symm;simp only [Bool.and_eq_true,Bool.or_eq_true,decide_eq_true_eq] at hb;have hfx:Pu (kd==34) k kids[k]=some (32,kids[k].re,kids[k].im):=by rw [hkk,Pu,if_pos ⟨by simp [hb.1],hb.2.1,hb.2.2.1⟩]
    rw [hfx] at HE;subst hkk;obtain ⟨l_B,x0,x1,x2,x3,x4,z0,z1,z2,z3,z4⟩:=Bv HB.1;obtain ⟨g3,o3,fm3,na3,nc3,hna3,d0,d1,d2,d3,d4,hn,l2⟩:=Iy HD.1.keep HKD.1 hlt
    cases hna3
    clear hn hfx hb
    go_wp2_with fail
    refine WD ?_;rintro r w8 ⟨rfl,hd,hs⟩;have hcx:=Zr y 32 kids[k].re kids[k].im;replace HD:=zh hd;replace HS:=zh (HS.1.trans hs);replace HB:=zh (hs.at HB.1 qg);replace HE:Hd (Ce (Ce (Dd y 32 kids[k].re kids[k].im) (Dg K.g fn y.kind y.loops kids[k])) (Cg K.g fn x.kind lo (kd==34) (k+1) (kids.drop (k+1)))=xe):=HE;generalize Dd y 32 kids[k].re kids[k].im=yf at*
    rw [←hcx.2.1,←hcx.2.2] at HE;replace HX1:=zh (hcx.1.trans HX1.1);replace HXk:=zh (hcx.2.1.trans HXk.1);replace HXl:=zh (hcx.2.2.trans HXl.1);replace HX2:=zh (show yf.kind≤7 by rw [hcx.2.1];exact HX2.1);replace HX3:=zh (show 0≤yf.loops by rw [hcx.2.2];exact HX3.1);replace HX4:=zh (show yf.loops+(Bo kids[k]:Int)≤900000 by rw [hcx.2.2];exact HX4.1);clear hd hs hcx l_B x0 x1 x2 x3 x4 z0 z1 z2 z3 z4 d0 d1 d2 d3 d4 l2;exact Aad
   | false=>
    have hfx:Ce y (Pu (kd==34) k kids[k])=y:=by
     rw [hkk,Pu]
     split
     ·rename_i hc;have:¬y.e=0:=fun h0=>by simp [hc.2.1,hc.2.2,h0] at hb;have h3:=hc.1;simp at h3;exact (hc.2.2.elim (fun q=>(hb h3).1 q) fun q=>(hb h3).2 q)
      exact Jn this _
     rfl
    rw [hfx] at HE;subst hkk;clear hfx hb;exact Aad
 have hke:k=kids.length:=by omega
 subst hke;rw [List.drop_length,Cg] at HE;obtain rfl:y=xe:=HE.1;clear HE;obtain ⟨l_B,x0,x1,x2,x3,x4,z0,z1,z2,z3,z4⟩:=Bv HB.1
 go_wp2_with fail
 refine (Ly kd _).mono ?_;rintro r w' ⟨rfl,hw'⟩;rw [hw',hlk];clear hw' w';obtain ⟨l_c,c0,c1,c2,c3,c4,c5,c6,c7,c8,c9,y0,y1,y2,y3,y4,y5,y6,y7,y8,y9⟩:=Ke HD.1.row;clear c0 c1 c2 c3 c4 c5 c6 c7 c8 y0 y1 y2 y3 y4 y5 y6 y7 y8;have hl0:=HLO.1;have hl1:=HL9.1;have hxl:=HXl.1;rw [hxl] at c9
 go_wp2_with fail
 exact Abb):p:=h
theorem JT{K:Br}(hK:Ff K){st:DS}{fn N:Nat}(hrec:RG K st fn N)(hN:N≤900000):RG K st fn (N+1):=by
 rintro ⟨kd,tx,fm',kids,re,im⟩ hn A x w v hd hnr hfn hk7 hl0 hl1;obtain ⟨fm,na,nc,hv,hkd⟩:=hnr.kids;simp only [Af.kind,Af.name,Af.kids,Af.re,Af.im] at hv hkd;rw [Bo] at hn hl1;have hkl:kids.length≤1000000:=by have:=Jl kids;omega
 have HD0:=zh hd;clear hd hnr;subst hv
 by_cases he:x.e=0
 ·rw [Dg,Gg (JD _ _ _ _ _ _ _ _ _)];have HBD:=zh (fun W (hk:Ac [] w W)=>QV hK (HD0.1.kp0 hk) hfn hk7 kd tx fm na nc re im kids hkl hkd);obtain ⟨x1,hx1⟩:∃y,y=Ce x (Iq K.g fn x.kind x.loops kd tx kids re im):=⟨_,rfl⟩;have hc:=Et x (Iq K.g fn x.kind x.loops kd tx kids re im);rw [←hx1] at HBD hc⊢;clear hx1;obtain ⟨lo,hlo⟩:∃lo,lo=if Lh kd then x.loops+1 else x.loops:=⟨_,rfl⟩
  rw [←hlo];obtain ⟨x2,hx2⟩:∃y:DX,y={x1 with loops:=lo}:=⟨_,rfl⟩
  obtain ⟨xe,hxe⟩:∃y,y=Ce x2 (Cg K.g fn x.kind lo (kd==34) 0 kids):=⟨_,rfl⟩
  have hres:Ce x1 (Cg K.g fn x.kind lo (kd==34) 0 kids)={xe with loops:=x.loops}:=by
   have hq:∀(q:DX) (l:Int),q.loops=x.loops→q={({q with loops:=l}:DX) with loops:=x.loops}:=fun q l h=>by cases q;simp at h;simp [h]
   rw [hxe,hx2,GU x1 lo (Cg K.g fn x.kind lo (kd==34) 0 kids)];exact hq (Ce x1 _) _ ((Et x1 _).2.2.trans hc.2.2)
  rw [hres];have hen:(x.e !=0)=false:=by simp [he]
  have HX1:=zh (show x2.fn=(fn:Int) -1 by rw [hx2];exact hc.1.trans hfn);have HXk:=zh (show x2.kind=x.kind by rw [hx2];exact hc.2.1);have HXl:=zh (show x2.loops=lo by rw [hx2]);have HK7:=zh hk7;have HKD:=zh hkd;have HREC:=zh hrec;have HE0:=zh hxe.symm;have HLO:=zh (show 0≤lo by rw [hlo];split<;>omega);have HL9:=zh (show lo≤900001 by rw [hlo];split<;>omega);have HSZ:=zh (show Ar kids≤N∧lo+(Ar kids:Int)≤900000 by rw [hlo];split<;>omega);clear hfn hk7 hkd hrec he hxe hres hn hl1;have HXX:=zh hx2;have hx1l:=hc.2.2
  cases hlk:Lh kd with
  |true=>
   rw [hlk,if_pos rfl] at hlo;have HLX:=zh (show x.loops=lo -1 by omega);have hl9:x.loops≤900000:=by have:=HL9.1;omega
   clear hx2 hc
   go_enter Tryz.func83,Tryz.ntmps83
   obtain ⟨l_c,c0,c1,c2,c3,c4,c5,c6,c7,c8,c9,y0,y1,y2,y3,y4,y5,y6,y7,y8,y9⟩:=Ke HD0.1.row
   go_wp2_with fail
   refine zdc ?_;rintro wp ⟨hk1,hb1⟩;have HB1:=zh hb1;have HK1:=zh hk1;clear hk1 hb1 l_c c0 c1 c2 c3 c4 c5 c6 c7 c8 c9 y0 y1 y2 y3 y4 y5 y6 y7 y8 y9;refine (HBD.1 _ HK1.1).mono ?_;rintro r wq ⟨rfl,hd,hs⟩;have HD1:=zh hd;have HS1:=zh ((KT.of0 (ts:=JK) HK1.1).trans hs);have HB1:=zh (hs.at HB1.1 qg);clear hd hs HK1;obtain ⟨l_B,x0,q1,q2,x3,x4,z0,z1,z2,z3,z4⟩:=Bv HB1.1
   go_wp2_with fail
   refine (Ly kd _).mono ?_;rintro r w' ⟨rfl,hw'⟩;rw [hw',hlk];clear hw' w';obtain ⟨l_c,c0,c1,c2,c3,c4,c5,c6,c7,c8,c9,y0,y1,y2,y3,y4,y5,y6,y7,y8,y9⟩:=Ke HD1.1.row;clear c0 c1 c2 c3 c4 c5 c6 c7 c8 y0 y1 y2 y3 y4 y5 y6 y7 y8;rw [hx1l] at c9
   go_wp2_with fail
   refine Bj (fun W=>Ac [K.c] wq W∧W.heap[K.c]? =some (dC K A {x1 with loops:=x.loops+1} st)) ⟨Av,Kj HD1.1.row⟩ ?_;rintro wz ⟨hk1,hr1⟩;rw [←hlo,←HXX.1] at hr1;have HD:=zh (HD1.1.upd hK hk1 hr1);have HS:=zh (HS1.1.trans (HD1.1.step hk1));have HB:=zh ((HD1.1.step hk1).at HB1.1 qg);clear hk1 hr1 HD1 HS1 HB1 l_B x0 q1 q2 x3 x4 z0 z1 z2 z3 z4 l_c c9 y9 hlo hl0 hl9 hx1l HXX;exact WF
  |false=>
   rw [hlk,if_neg qg] at hlo;have HLX:=zh hlo;have hx21:x2=x1:=by rw [hx2,hlo];cases x1;simp at hx1l;simp [hx1l]
   clear hx2 hc
   go_enter Tryz.func83,Tryz.ntmps83
   obtain ⟨l_c,c0,c1,c2,c3,c4,c5,c6,c7,c8,c9,y0,y1,y2,y3,y4,y5,y6,y7,y8,y9⟩:=Ke HD0.1.row
   go_wp2_with fail
   refine zdc ?_;rintro wp ⟨hk1,hb1⟩;have HB1:=zh hb1;have HK1:=zh hk1;clear hk1 hb1 l_c c0 c1 c2 c3 c4 c5 c6 c7 c8 c9 y0 y1 y2 y3 y4 y5 y6 y7 y8 y9;refine (HBD.1 _ HK1.1).mono ?_;rintro r wq ⟨rfl,hd,hs⟩;rw [←hx21] at hd;have HD:=zh hd;have HS:=zh ((KT.of0 (ts:=JK) HK1.1).trans hs);have HB:=zh (hs.at HB1.1 qg);clear hd hs HK1 HB1 hx21 hx1l HXX;obtain ⟨l_B,x0,q1,q2,x3,x4,z0,z1,z2,z3,z4⟩:=Bv HB.1
   go_wp2_with fail
   refine (Ly kd _).mono ?_;rintro r w' ⟨rfl,hw'⟩;rw [hw',hlk];clear hw' w' l_B x0 q1 q2 x3 x4 z0 z1 z2 z3 z4 hlo hl0
   go_wp2_with fail
   exact WF
 rw [Jn he];have hen:(x.e !=0)=true:=by simp [he]
 clear hfn hk7 hl0 hl1
 go_enter Tryz.func83,Tryz.ntmps83
 obtain ⟨l_c,c0,c1,c2,c3,c4,c5,c6,c7,c8,c9,y0,y1,y2,y3,y4,y5,y6,y7,y8,y9⟩:=Ke HD0.1.row
 go_wp2_with fail
 refine Ap (v:= .tuple #[]) (fun W=>Ac [] w W) Av (fun w1 hW=>by simp [results,Jo,go_sem]) rfl (fun w1 hW=>⟨rfl,HD0.1.kp0 hW,KT.of0 hW⟩)
theorem BX{K:Br}(hK:Ff K)(st:DS)(fn:Nat):∀N,N≤900000→RG K st fn N
 |0,_=>fun n hn=>by have:=Ci n;omega
 |N+1,h=>JT hK (BX hK st fn N jh) jh
theorem DK.rule{K:Br}(hK:Ff K){A:DA}{x:DX}{st:DS}{W:World}(h:DK K A x st W){i:Nat}(hi:i<K.g.rules.length):
  ∃g o pa pc bt bm ba bl bc br bi,K.ra=some ⟨g,o,none⟩∧W.cell? ⟨g,o+i*9,none⟩=some (.int .i64 K.g.rules[i].kind)∧W.cell? ⟨g,o+i*9+2,none⟩=some (.slice pa K.g.rules[i].pats.length pc)∧W.cell? ⟨g,o+i*9+3,none⟩=some (.int .i64 K.g.rules[i].body.kind)∧W.cell? ⟨g,o+i*9+4,none⟩=some (.string bt)∧W.cell? ⟨g,o+i*9+5,none⟩=some (.float .f64 bm)∧W.cell? ⟨g,o+i*9+6,none⟩=some (.slice ba bl bc)∧
   W.cell? ⟨g,o+i*9+7,none⟩=some (.complex .f64 br bi)∧Bc K.w0 (fun _=>True) K.g.rules[i].pats (.slice pa K.g.rules[i].pats.length pc)∧Au K.w0 (fun _=>True) K.g.rules[i].body (.agg #[.int .i64 K.g.rules[i].body.kind,.string bt,.float .f64 bm,.slice ba bl bc,.complex .f64 br bi])∧g<W.heap.size:=by
 obtain ⟨g,o,cap,c,hv,-,hg,⟨pa,pc,b0,b1,b2,b3,b4,rfl,hp,hn⟩,hc⟩:=hK.rules.get Dh hi;obtain ⟨bt,bm,ba,bl,bc,br,bi,hbv,-,-⟩:=hn.shape;obtain ⟨rfl,rfl,rfl,rfl,rfl⟩:b0= .int .i64 K.g.rules[i].body.kind∧b1= .string bt∧b2= .float .f64 bm∧b3= .slice ba bl bc∧b4= .complex .f64 br bi:=by simpa using hbv
 have hc':∀j u,[.int .i64 K.g.rules[i].kind,.int .i64 K.g.rules[i].n,.slice pa K.g.rules[i].pats.length pc,.int .i64 K.g.rules[i].body.kind,.string bt,.float .f64 bm,.slice ba bl bc,.complex .f64 br bi,.complex .f64 K.g.rules[i].re K.g.rules[i].im][j]? =some u→W.cell? ⟨g,o+i*9+j,none⟩=some u:=fun j u hj=>by
  exact jve
 have hra:K.ra=some ⟨g,o,none⟩:=by injection hv
 exact ⟨g,o,pa,pc,bt,bm,ba,bl,bc,br,bi,hra,hc' 0 _ rfl,hc' 2 _ rfl,hc' 3 _ rfl,hc' 4 _ rfl,hc' 5 _ rfl,hc' 6 _ rfl,hc' 7 _ rfl,hp,hn,Nat.lt_of_lt_of_le hg h.keep.size⟩
theorem DK.funcS{K:Br}(hK:Ff K){A:DA}{x:DX}{st:DS}{W:World}(h:DK K A x st W){i:Nat}(hi:i<K.g.funcs.length):
  ∃g o pa pc bt bm ba bl bc br bi,K.fa=some ⟨g,o,none⟩∧W.cell? ⟨g,o+i*8,none⟩=some (.string K.g.funcs[i].name)∧W.cell? ⟨g,o+i*8+1,none⟩=some (.slice pa K.g.funcs[i].params.length pc)∧W.cell? ⟨g,o+i*8+2,none⟩=some (.int .i64 K.g.funcs[i].body.kind)∧W.cell? ⟨g,o+i*8+3,none⟩=some (.string bt)∧W.cell? ⟨g,o+i*8+4,none⟩=some (.float .f64 bm)∧W.cell? ⟨g,o+i*8+5,none⟩=some (.slice ba bl bc)∧
   W.cell? ⟨g,o+i*8+6,none⟩=some (.complex .f64 br bi)∧W.cell? ⟨g,o+i*8+7,none⟩=some (.complex .f64 K.g.funcs[i].re K.g.funcs[i].im)∧Aq Ef K.w0 (fun _=>True) K.g.funcs[i].params (.slice pa K.g.funcs[i].params.length pc)∧Au K.w0 (fun _=>True) K.g.funcs[i].body (.agg #[.int .i64 K.g.funcs[i].body.kind,.string bt,.float .f64 bm,.slice ba bl bc,.complex .f64 br bi])∧g<W.heap.size:=by
 obtain ⟨g,o,pa,pc,b0,b1,b2,b3,b4,hfa,d0,d1,d2,d3,d4,d5,d6,d7,hp,hn,l⟩:=h.func hK hi;obtain ⟨bt,bm,ba,bl,bc,br,bi,hbv,-,-⟩:=hn.shape;obtain ⟨rfl,rfl,rfl,rfl,rfl⟩:b0= .int .i64 K.g.funcs[i].body.kind∧b1= .string bt∧b2= .float .f64 bm∧b3= .slice ba bl bc∧b4= .complex .f64 br bi:=by simpa using hbv
 exact ⟨g,o,pa,pc,bt,bm,ba,bl,bc,br,bi,hfa,d0,d1,d2,d3,d4,d5,d6,d7,hp,hn,l⟩
def DX.E(x:DX):Int×Nat×Nat:=(x.e,x.re,x.im)
theorem BS(x:DX)(f:Option Ic):(Ce x f).E=if x.e=0 then f.getD x.E else x.E:=by
 cases f with
 |none=>split<;>rfl
 |some f=>
  show (Dd x _ _ _).E=_;unfold Dd
  split<;>rfl
theorem Ie{x y:DX}(h:x.E=y.E)(f:Option Ic):(Ce x f).E=(Ce y f).E:=by
 have:x.e=y.e:=congrArg (·.1) h;rw [BS,BS,h,this]
def AlR(K:Br)(A:DA)(st:DS)(e:Int×Nat×Nat)(w:World)(g:Nat)(j:Value)(W:World):Prop:=
 ∃(k:Nat) (y:DX),j= .int .i64 k∧k≤K.g.rules.length∧g=K.g.rules.length+1 -k∧(Ce y (Mi K.g (K.g.rules.drop k))).E=e∧y.fn= -1∧y.kind≤7∧y.loops=0∧DK K A y st W∧Bh w W
def AlP(K:Br)(A:DA)(st:DS)(pats:List Af)(kind:Int)(e:Int×Nat×Nat)(w:World)(g:Nat)(j:Value)(W:World):Prop:=
 ∃(k:Nat) (y:DX),j= .int .i64 k∧k≤pats.length∧g=pats.length+1 -k∧(Ce y (Cg K.g 0 kind 0 false k (pats.drop k))).E=e∧y.fn= -1∧y.kind=kind∧y.loops=0∧DK K A y st W∧Bh w W
def AlF(K:Br)(A:DA)(st:DS)(e:Int×Nat×Nat)(w:World)(g:Nat)(j:Value)(W:World):Prop:=
 ∃(k:Nat) (y:DX),j= .int .i64 k∧k≤K.g.funcs.length∧g=K.g.funcs.length+1 -k∧(Ce y (Ip K.g k (K.g.funcs.drop k))).E=e∧y.kind≤7∧y.loops=0∧DK K A y st W∧Bh w W
theorem zfe{p:Prop}(h:p:=by
 rw [hst] at HD HI;clear HE
 go_wp2_with fail
 refine Cq (v:= .tuple #[]) (fun W=>Ac [] wr W) Av (fun w1 hW=>by simp [results,Jo,go_sem]) rfl (fun w1 hW=>⟨rfl,⟨_,HD.1.kp0 hW⟩,HS.1.add hW,HI.1⟩)):p:=h
def DI(st:DS):Prop:=st.things.length≤1000000∧st.calls.length≤st.uses.length∧st.uses.length≤1000000
theorem DI.of{st st':DS}{t:Ae}{i:Nat}(h:DI st)(ho:Um st t=some (i,st')):DI st':=by
 rcases Lo ho with ⟨k,-,-,h3⟩|⟨-,h2,-,h3⟩
 ·rw [h3];exact h
 rw [h3];exact ⟨by simp;omega,h.2⟩
theorem DI.use{st st':DS}{u:Gq}(h:DI st)(hu:Jx st u=some st'):DI st':=by
 unfold Jx at hu;split at hu
 ·cases hu;exact ⟨h.1,by have:=h.2.1;simp;omega,by simp;omega⟩
 cases hu
theorem DI.ev{st st':DS}{e:Ev}(h:DI st)(he:It st e=some st'):DI st':=by
 cases e with
 |see t re im=>
  exact zxe
 |use t arr re im=>
  exact zxe
 |kid t re im=>
  simp only [It,Option.bind_eq_some_iff] at he;obtain ⟨⟨i,d1⟩,h1,h2⟩:=he;have h3:=h.of h1;unfold Jx at h2;split at h2
  ·cases h2;exact ⟨h3.1,by have:=h3.2.1;simp;omega,by rename_i q;simp at q⊢;omega⟩
  cases h2
 |bad re im=>exact h.use he
 |link a p re im=>
  simp only [It,Option.bind_eq_some_iff,Option.some.injEq] at he;obtain ⟨⟨i,d1⟩,h1,⟨j,d2⟩,h2,d3,h3,x,-,y,-,rfl⟩:=he;have h4:=((h.of h1).of h2).use h3;exact ⟨by show (List.modify _ _ _).length≤_;rw [List.length_modify];exact h4.1,h4.2⟩
 |reg t=>
  simp only [It,Option.map_eq_some_iff] at he;obtain ⟨⟨i,d1⟩,h1,rfl⟩:=he;exact h.of h1
def EZ(g:Ah)(fn:Nat)(al:Bool)(n:Af):List Ev:=if al=true∧n.kind=4 then [.see (Du g fn n.name) n.re n.im] else Xd g fn n
theorem Pv(g:Ah)(fn:Nat)(n:Af):EZ g fn false n=Xd g fn n:=by rw [EZ,if_neg qg]
def Xr(K:Br)(x:DX)(fn:Nat)(N:Nat):Prop:=∀(n:Af),Bo n≤N→∀(A:DA) (st st':DS) (w:World) (v:Value) (al:Bool),DK K A x st w→DI st→Au K.w0 (fun _=>True) n v→Yg n→(∃kd lo,Dg K.g fn kd lo n=none)→
 Ee (EZ K.g fn al n) st=some st'→
 Calls Tryz.prog 86 #[.pointer (some ⟨K.c,0,none⟩),v,.bool al] w fun r w'=>r= .returned (.tuple #[])∧(∃A',DK K A' x st' w')∧Bh w w'∧DI st'
def GaI(K:Br)(x:DX)(fn:Nat)(kids:List Af)(st':DS)(w:World)(B:Nat)(o:Obj)(g:Nat)(j:Value)(W:World):Prop:=
 ∃(k:Nat) (A:DA) (st:DS),j= .int .i64 k∧k≤kids.length∧g=kids.length+1 -k∧Ee (Nq K.g fn (kids.drop k)) st=some st'∧DK K A x st W∧DI st∧Bh w W∧W.heap[B]? =some o
theorem Kk:∀{l:List Af} {n:Af},Oy l→n∈l→Yg n
 | x::l,n,h,hm=>by
   rw [Oy] at h
   rcases List.mem_cons.1 hm with rfl|hm
   ·exact h.1
   exact Kk h.2 hm
theorem Wz{g:Ah}{fn:Nat}{kd lo:Int}{lp:Bool}:∀{l:List Af} {i:Nat} {n:Af},Cg g fn kd lo lp i l=none→n∈l→Dg g fn kd lo n=none
 | x::l,i,n,h,hm=>by
   rw [Cg] at h;obtain ⟨h1,h2⟩:=Option.or_eq_none' h
   rcases List.mem_cons.1 hm with rfl|hm
   ·exact (Option.or_eq_none' h1).2
   exact Wz h2 hm
theorem Aaz{p:Prop}(h:p:=by
 refine Bj (fun W=>Ac [] w W∧W.heap[w.heap.size]? =some (Gm _ tx fm na _ nc re im)) ⟨Av,Nv⟩ ?_;rintro wa ⟨hka,hba⟩;have HB1:=zh hba;have HK1:=zh hka;have HDa:=zh (HD0.1.kp0 hka);clear hka hba l_c c7 y7;have l_c:=HDa.1.lt;have c7:=Aa HDa.1.row 7;have y7:=Ab HDa.1.row 7;simp at c7;obtain ⟨l_B,x0,x1,x2,x3,x4,z0,z1,z2,z3,z4⟩:=Bv HB1.1
 go_still_tail 10,qh
 change wpList _ _ _ _ _ wa.drew
 have HKd:=zh (HK1.1.trans (Ac.drew [] wa) qg);have HBd:=zh ((Ac.drew [] wa).at HB1.1 qg);clear HB1 HK1 HDa;generalize wa.drew=wd at*
 go_wp2_with fail
 refine (HU.1 _ HKd.1).mono ?_;rintro r wq ⟨rfl,⟨A1,hd⟩,hs⟩;have HD:=zh hd;have HS:=zh ((KT.of0 (ts:=JK) HKd.1).trans hs);have HB:=zh (hs.at HBd.1 qg);clear hd hs HKd HBd l_c c7 y7 l_B x0 x1 x2 x3 x4 z0 z1 z2 z3 z4
 go_wp2_with fail
 go_loopg [7] 1 (fun g j wr=>g=1∧j= .int .i64 0∧DK K A1 x st' wr∧Bh w wr∧wr.heap[w.heap.size]? =some (Gm 4 tx fm na 0 nc re im))
 case atStart=>exact ⟨rfl,rfl,HD.1.kp0 Av,HS.1.add Av,Ac.at (fp:= []) Av HB.1 qg⟩
 obtain ⟨-,rfl,hd,hs,hb⟩:=hrel;replace HD:=zh hd;replace HS:=zh hs;obtain ⟨l_B,x0,x1,x2,x3,x4,z0,z1,z2,z3,z4⟩:=Bv hb;clear hd hs hb
 go_wp2_with fail
 refine Cq (v:= .tuple #[]) (fun W=>Ac [] wr W) Av (fun w1 hW=>by simp [results,Jo,go_sem]) rfl (fun w1 hW=>⟨rfl,⟨_,HD.1.kp0 hW⟩,HS.1.add hW,HI'.1⟩)):p:=h
theorem XQ{p:Prop}(h:p:=by
 go_wp2_with fail
 refine jdc ?_;rintro w5 ⟨hk5,hb5⟩;replace HB:=zh (hk5.at HB.1 qg);replace HD:=zh (HD.1.kp0 hk5);replace HS:=zh (HS.1.add hk5);clear hk5 hb5 l_B x0 x1 x2 x3 x4 z0 z1 z2 z3 z4 d0 d1 d2 d3 d4 l2;refine (HREC.1 kk HSZ.1 _ _ _ _ _ _ HD.1 HI.1 HN.1 HWf.1 HFl.1 HE1.1).mono ?_;rintro r w9 ⟨rfl,⟨A9,hd⟩,hs,hi9⟩;have HD9:=zh hd;have HS9:=zh (HS.1.trans hs);have HB9:=zh (hs.at HB.1 qg);have HI9:=zh hi9;clear hd hs hi9
 go_wp2_with fail
 go_roundg f
 case measure=>omega
 case rel=>exact ⟨k+1,_,_,by first|rfl|(simp;done)|(simp;omega),by omega,by omega,HE2.1,HD9.1.kp0 Av,HI9.1,HS9.1.add Av,Ac.at (fp:= []) Av HB9.1 qg⟩):p:=h
theorem dGa{p:Prop}(h:p:=by
 go_wp2_with fail
 go_loopg [7] (kids.length+1) (fun g j wr=>GaI K x fn kids st' w w.heap.size (Gm kd tx fm na kids.length nc re im) g j wr)
 case atStart=>exact ZQ
 clear HD HI HS HB HE;obtain ⟨k,A1,s1,rfl,hk1,hk2,he,hd,hi,hs,hb⟩:=hrel;have HD:=zh hd;have HS:=zh hs;have HB:=zh hb;have HI:=zh hi;have HE:=zh he;clear hd hs hb hi he;obtain ⟨l_B,x0,x1,x2,x3,x4,z0,z1,z2,z3,z4⟩:=Bv HB.1
 by_cases hlt:k<kids.length
 ·cases gk with
  |zero=>omega
  |succ f=>
   obtain ⟨g3,o3,fm3,na3,nc3,hna3,d0,d1,d2,d3,d4,hn,l2⟩:=Iy HD.1.keep HKD.1 hlt;subst hna3;have HN:=zh hn;have HSZ:=zh (Nat.le_trans (Hb (List.getElem_mem hlt)) HKS.1);have HWf:=zh (HWK.1 _ (List.getElem_mem hlt));have HFl:=zh (HFK.1 _ (List.getElem_mem hlt));have h:=HE.1;rw [List.drop_eq_getElem_cons hlt,Nq,Cl,Option.bind_eq_some_iff] at h;obtain ⟨s2,h1,h2⟩:=h;have HE1:Hd (Ee (EZ K.g fn false kids[k]) s1=some s2):=zh (by rw [Pv];exact h1);have HE2:=zh h2;clear hn h1 h2 HE;generalize kids[k]=kk at*
   exact XQ
 have hke:k=kids.length:=by omega
 subst hke;have hst:s1=st':=by have h:=HE.1;rw [List.drop_length,Nq] at h;cases h;rfl
 rw [hst] at HD HI;clear HE
 go_wp2_with fail
 refine Cq (v:= .tuple #[]) (fun W=>Ac [] wr W) Av (fun w1 hW=>by simp [results,Jo,go_sem]) rfl (fun w1 hW=>⟨rfl,⟨_,HD.1.kp0 hW⟩,HS.1.add hW,HI.1⟩)):p:=h
theorem Aae{p:Prop}(h:p:=by
 refine zec ?_;rintro wa ⟨hka,hba⟩;have HB1:=zh hba;have HK1:=zh hka;have HDa:=zh (HD0.1.kp0 hka);clear hka hba l_c c7 y7;have l_c:=HDa.1.lt;have c7:=Aa HDa.1.row 7;have y7:=Ab HDa.1.row 7;simp at c7;obtain ⟨l_B,x0,x1,x2,x3,x4,z0,z1,z2,z3,z4⟩:=Bv HB1.1
 go_still_tail 9,qh
 change wpList _ _ _ _ _ wa.drew
 have HKd:=zh (HK1.1.trans (Ac.drew [] wa) qg);have HBd:=zh ((Ac.drew [] wa).at HB1.1 qg);clear HB1 HK1 HDa;generalize wa.drew=wd at*
 go_wp2_with fail
 refine (HU.1 _ HKd.1).mono ?_;rintro r wq ⟨rfl,⟨A1,hd⟩,hs⟩;have HD:=zh hd;have HS:=zh ((KT.of0 (ts:=JK) HKd.1).trans hs);have HB:=zh (hs.at HBd.1 qg);clear hd hs HKd HBd l_c c7 y7 l_B x0 x1 x2 x3 x4 z0 z1 z2 z3 z4;exact dGa):p:=h
theorem PR{K:Br}(hK:Ff K){A:DA}{x:DX}{st st1 st':DS}{w:World}{fn N:Nat}(h:DK K A x st w)(hi:DI st)(hfn:x.fn=(fn:Int) -1)(hfl:fn≤K.g.funcs.length)(hrec:Xr K x fn N)(kd:Int)(e4:(kd==4)=false)(e19:(kd==19)=false)(e20:(kd==20)=false)(hkk:(kd==5)=true∨((kd==5)=false∧(kd==11)=true)∨((kd==5)=false∧(kd==11)=false∧(kd==41)=true)∨((kd==5)=false∧(kd==11)=false∧(kd==41)=false∧(kd==35)=true))(tx:ByteArray)(fm:Nat)(na:Option Addr)(nc re im:Nat)(al:Bool)(kids:List Af)(hkl:kids.length≤1000000)(hkd:Bc K.w0 (fun _=>True) kids (.slice na kids.length nc))(hks:Ar kids≤N)(hwf:Oy kids)(hfk:∀kk∈kids,∃kd lo,Dg K.g fn kd lo kk=none)(he:It st (.use (Du K.g fn tx) true re im)=some st1)(hek:Ee (Nq K.g fn kids) st1=some st'):Calls Tryz.prog 86 #[.pointer (some ⟨K.c,0,none⟩),.agg #[.int .i64 kd,.string tx,.float .f64 fm,.slice na kids.length nc,.complex .f64 re im],.bool al] w fun r w'=>r= .returned (.tuple #[])∧(∃A',DK K A' x st' w')∧Bh w w'∧DI st':=by
 have HI:=zh (hi.ev he);simp only [It,Option.bind_eq_some_iff] at he;obtain ⟨⟨i,d1⟩,h1,h2⟩:=he;have HD0:=zh h;have HU:=zh (fun W (hk:Ac [] w W)=>Rb hK (h.kp0 hk) fn hfl tx hfn 2 re im h1 h2 hi.1);have HE:=zh hek;have HREC:=zh hrec;have HKD:=zh hkd;have HKS:=zh hks;have HWK:=zh (fun kk (hm:kk∈kids)=>Kk hwf hm);have HFK:=zh hfk;clear h hi hfn h1 h2 hek hrec hkd hks hwf hfk
 rcases hkk with e5|⟨e5,e11⟩|⟨e5,e11,e41⟩|⟨e5,e11,e41,e35⟩
 all_goals
  go_enter Tryz.func86,Tryz.ntmps86
  obtain ⟨l_c,c0,c1,c2,c3,c4,c5,c6,c7,c8,c9,y0,y1,y2,y3,y4,y5,y6,y7,y8,y9⟩:=Ke HD0.1.row;clear c0 c1 c2 c3 c4 c5 c6 c8 c9 y0 y1 y2 y3 y4 y5 y6 y8 y9
  first
  | go_upto_region 10 with fail
    exact Aae
  | go_upto_region 12 with fail
    exact Aae
theorem LR{K:Br}(hK:Ff K){A:DA}{x:DX}{st st':DS}{w:World}{fn N:Nat}(h:DK K A x st w)(hi:DI st)(hrec:Xr K x fn N)(kd:Int)(e4:(kd==4)=false)(e5:(kd==5)=false)(e11:(kd==11)=false)(e41:(kd==41)=false)(e35:(kd==35)=false)(e19:(kd==19)=false)(e20:(kd==20)=false)(tx:ByteArray)(fm:Nat)(na:Option Addr)(nc re im:Nat)(al:Bool)(kids:List Af)(hkl:kids.length≤1000000)(hkd:Bc K.w0 (fun _=>True) kids (.slice na kids.length nc))(hks:Ar kids≤N)(hwf:Oy kids)(hfk:∀kk∈kids,∃kd lo,Dg K.g fn kd lo kk=none)(hek:Ee (Nq K.g fn kids) st=some st'):Calls Tryz.prog 86 #[.pointer (some ⟨K.c,0,none⟩),.agg #[.int .i64 kd,.string tx,.float .f64 fm,.slice na kids.length nc,.complex .f64 re im],.bool al] w fun r w'=>r= .returned (.tuple #[])∧(∃A',DK K A' x st' w')∧Bh w w'∧DI st':=by
 have HD0:=zh h;have HI:=zh hi;have HE:=zh hek;have HREC:=zh hrec;have HKD:=zh hkd;have HKS:=zh hks;have HWK:=zh (fun kk (hm:kk∈kids)=>Kk hwf hm);have HFK:=zh hfk;clear h hi hek hrec hkd hks hwf hfk;exact jle
theorem LQ{K:Br}(hK:Ff K){A:DA}{x:DX}{st st':DS}{w:World}{fn:Nat}(h:DK K A x st w)(hi:DI st)(hfn:x.fn=(fn:Int) -1)(hfl:fn≤K.g.funcs.length)(tx:ByteArray)(fm:Nat)(na:Option Addr)(nc re im:Nat)(al:Bool)(he:It st (if al=true then .see (Du K.g fn tx) re im else .use (Du K.g fn tx) false re im)=some st'):Calls Tryz.prog 86 #[.pointer (some ⟨K.c,0,none⟩),.agg #[.int .i64 4,.string tx,.float .f64 fm,.slice na 0 nc,.complex .f64 re im],.bool al] w fun r w'=>r= .returned (.tuple #[])∧(∃A',DK K A' x st' w')∧Bh w w'∧DI st':=by
 have HI':=zh (hi.ev he)
 obtain ⟨how,i,st1,ho,hu,hh⟩:∃(how:Int) (i:Nat) (st1:DS),Um st (Du K.g fn tx)=some (i,st1)∧Jx st1 ⟨i,how,re,im⟩=some st'∧how=if al=true then 0 else 1:=by
  cases al with
  |true=>
   rw [if_pos rfl] at he;simp only [It,Option.bind_eq_some_iff] at he;obtain ⟨⟨i,d1⟩,h1,h2⟩:=he;exact ⟨0,i,d1,h1,h2,rfl⟩
  |false=>
   rw [if_neg qg] at he;simp only [It,Option.bind_eq_some_iff] at he;obtain ⟨⟨i,d1⟩,h1,h2⟩:=he;exact ⟨1,i,d1,h1,h2,rfl⟩
 have HD0:=zh h;have HU:=zh (fun W (hk:Ac [] w W)=>Rb hK (h.kp0 hk) fn hfl tx hfn how re im ho hu hi.1);clear h hi he hfn ho hu
 cases al with
 |true=>
  rw [if_pos rfl] at hh;exact jke
 |false=>
  rw [if_neg qg] at hh;exact jke
theorem Zq{t:Ae}{k:Nat}:∀{l:List Ea} {i:Nat},Fi t l i=none→Fi t (l++ [⟨t,k⟩]) i=some (i+l.length)
 | [],i,h=>by
   have:Oq t t=true:=by simp [Oq,(Cv.2 rfl:same t.2 t.2=true)]
   simp [Fi,this]
 | x::l,i,h=>by
   rw [Fi] at h
   split at h
   ·cases h
   rename_i q;rw [List.cons_append,Fi,if_neg q,Zq h,List.length_cons];congr 1;omega
theorem LY{st st1:DS}{t:Ae}{i:Nat}(h:Um st t=some (i,st1)){s:DS}(hs:s.things=st1.things):Um s t=some (i,s):=by
 have hf:Fi t s.things 0=some i:=by
  rw [hs]
  rcases Lo h with ⟨k,h1,h2,h3⟩|⟨h1,-,h2,h3⟩
  ·rw [h3,h1,h2]
  rw [h3,h2];show Fi t (st.things++_) 0=_;rw [Zq h1,Nat.zero_add]
 unfold Um;rw [hf]
theorem DW:∀(l:List Ea) (i j:Nat),i<l.length→((l.modify i fun x=>{x with like:=j}).flatMap JU)=(l.flatMap JU).set (i*3+2) (.int .i64 j)
 |x::l,0,j,h=>by simp [JU]
 | x::l,i+1,j,h=>by
   rw [List.modify_succ_cons,List.flatMap_cons,List.flatMap_cons,DW l i j (by simpa using h),show (i+1)*3+2=(JU x).length+(i*3+2) by rw [thL];omega,List.set_append_right _ _ jh]
   congr 2;omega
theorem DK.like{K:Br}(_:Ff K){A:DA}{x:DX}{st:DS}{W W':World}(h:DK K A x st W){i j g:Nat}(hi:i<st.things.length)(hta:A.ta=some ⟨g,0,none⟩)(hk:Ac [g] W W'){cur:Array Value}(hg:W.heap[g]? =some (.cells cur 117 (0,0)))(hr:W'.heap[g]? =some (.cells (cur.setIfInBounds (i*3+2) (.int .i64 j)) 117 (0,0))):DK K A x (Ir st i j) W'∧Bh W W':=by
 have hT:KT [117] W W':=KT.ofOne hk hg qg;have hS:Bh W W':=KT.ofOne hk hg qg
 have hb:K.w0.heap.size≤g:=by
  rcases h.things.2 with ⟨h1,h2⟩|⟨g',c,cur',h1,hb,_⟩
  ·omega
  rw [hta] at h1;simp at h1;rw [h1.1];exact hb
 have hln:(Ir st i j).things.length=st.things.length:=by simp [Ir]
 refine ⟨⟨h.keep.trans hk (by simp;exact hb), ?_, ?_,h.uses.kp fun g c hg _=>(hT.at hg qg).trans hg.symm,h.calls.kp fun g c hg _=>(hT.at hg qg).trans hg.symm⟩,hS⟩
 ·rw [hT.at h.row qg];show some (dC K A x st)=some (dC K A x (Ir st i j));unfold dC;rw [hln];rfl
 have hr0:=h.things;unfold Dz at hr0⊢;rw [hln,hta] at*
 show W'.ownsRow _ _ _ _ _ ((st.things.modify i fun x=>{x with like:=j}).flatMap JU);rw [DW _ _ _ hi];refine ⟨by rw [List.length_set];exact hr0.1, ?_⟩
 rcases hr0.2 with ⟨h1,h2⟩|⟨g',cap,cur',h1,hb',hh,h3,h4,h5,h6⟩
 ·simp at h1
 simp at h1;obtain ⟨rfl,rfl⟩:=h1;rw [hg] at hh;simp at hh;subst hh;refine .inr ⟨g,A.tc,_,rfl,hb,hr,h3,h4,by simpa using h5, ?_⟩;rw [Array.toList_setIfInBounds,List.take_set,h6]
section
variable {P:Program} {md:Region.Mode} {ops:Array Oper} {Q:Exit→Act→World→Prop} {S:World→Prop} {o:Oper} {v:Value} {fuel:Nat} {listed:Array Bool} {a:Act} {w:World}
theorem Mo{i:Nat}{d:Option Tmp}(hQ:∀c a w,Q (.panic c) (a.put ((ops[i]?).bind (·.dst)) v) w→Q (.panic c) a w)(hS:S w)(h:wpAnyH P md ops Q S fuel (listed.setIfInBounds i true) (a.put d v) w)(hi:ops[i]? =some o:=by rfl)(hd:o.dst=d:=by rfl)(hs:Region.noSelect ops=true:=by kernel_rfl)(hf:Region.free md ops listed i=true:=by kernel_rfl)(hr:(Region.ready md ops listed).contains i=true:=by kernel_rfl)(hw:Region.wanted o (yielded ops a.tmps)=true:=by rfl)(hy:∀w,S w→(execOp a.eval o).run P w= .ok (.value v) w:=by intro w' hSw;(try dsimp only at hSw);go_simp;(try with_reducible rfl)):wpAnyH P md ops Q S (fuel+1) listed a w:=wpAnyH_take hi hs hf hr (by rw [hi] at hQ;exact hQ) (.inl ⟨hw,hy⟩) hS (hd▸h)
end
def Nu(md:Region.Mode)(ops:Array Oper):Bool:=(List.range ops.size).all fun i=>match ops[i]? with
 | some o=>o.guard.isNone&&(o.after.all fun e=>decide (e.on<i))&&(decide (i+1=ops.size)||(List.range ops.size).any fun j=>decide (i<j)&&match ops[j]? with
   |some p=>p.after.any fun e=>Region.binds md e&&e.on==i
   |none=>false)
 |none=>false
theorem Jm{md:Region.Mode}{ops:Array Oper}(h:Nu md ops=true){i:Nat}(hi:i<ops.size):∃o,ops[i]? =some o∧o.guard=none∧(∀e∈o.after,e.on<i)∧(i+1<ops.size→∃j p,i<j∧ops[j]? =some p∧∃e∈p.after,Region.binds md e=true∧e.on=i):=by
 have h1:=List.all_eq_true.1 h i (List.mem_range.2 hi);rw [Array.getElem?_eq_getElem hi] at h1⊢;simp only [Bool.and_eq_true,Bool.or_eq_true,decide_eq_true_eq,Option.isNone_iff_eq_none] at h1;obtain ⟨⟨h2,h3⟩,h4⟩:=h1;refine ⟨_,rfl,h2,fun e he=> ?_,fun hlt=> ?_⟩
 ·have:=Array.all_eq_true_iff_forall_mem.1 h3 e he
  simpa using this
 rcases h4 with h4|h4
 ·omega
 obtain ⟨j,-,hj⟩:=List.any_eq_true.1 h4;simp only [Bool.and_eq_true,decide_eq_true_eq] at hj;obtain ⟨hj1,hj2⟩:=hj
 cases hp:ops[j]? with
 |none=>rw [hp] at hj2;cases hj2
 |some p=>
  rw [hp] at hj2;obtain ⟨e,he,hb⟩:=Array.any_eq_true'.1 hj2;simp only [Bool.and_eq_true,beq_iff_eq] at hb;exact ⟨j,p,hj1,hp,e,he,hb.1,hb.2⟩
def BT(md:Region.Mode)(ops:Array Oper)(n:Nat)(L:Array Bool):Prop:=∀j,j<n→L.getD j false=true→∀p,ops[j]? =some p→∀e∈p.after,Region.binds md e=true→L.getD e.on false=true
def JQ(P:Program)(ops:Array Oper)(Q:Exit→Act→World→Prop)(n:Nat):Exit→Act→World→Prop
 | .normal,a,w=>wpOp P ops Q n (fun a w=>Q .normal a w) a w
 |e,a,w=>Q e a w
theorem JS{P:Program}{md:Region.Mode}{ops:Array Oper}{Q:Exit→Act→World→Prop}{n:Nat}(hn:ops.size=n+1)(hc:Nu md ops=true){i:Nat}(hi:i<n){K K':Act→World→Prop}{a:Act}{w:World}(hk:∀a w,K a w→K' a w)(h:wpOp P ops.pop (JQ P ops Q n) i K a w):wpOp P ops Q i K' a w:=by
 obtain ⟨o,ho,hg,-,-⟩:=Jm hc (i:=i) (by omega)
 have ho':ops.pop[i]? =some o:=by
  rw [Array.getElem?_pop,if_pos (by omega)];exact ho
 unfold wpOp at*
 rw [ho'] at h;rw [ho];simp only [Region.wanted,hg,if_true] at h⊢;refine h.imp (fun h=> ?_) (fun h=>⟨h.1, ?_⟩)
 ·unfold Oper.wp at*
  generalize (execOp a.eval o).run P w=r at*
  cases r with
  | ok x w'=>
   cases x<;>simp only [Oper.upon] at h⊢
   case value u=>exact hk _ _ h
   case skip=>exact hk _ _ h
   case defer d=>exact hk _ _ h
   case enter f args=>
    refine Calls.mono h fun e w'' he=> ?_
    cases e with
    |returned u=>exact hk _ _ he
    |panicked c=>exact he
    |outgrown=>obtain ⟨a1,w1,h1⟩:=he;exact ⟨a1,w1,h1⟩
   case row row args=>exact Rows.mono h fun u w'' he=>hk _ _ he
  |halt x w'=>
   cases x<;>simp only [Oper.upon] at h⊢
   case panic u=>exact h
 obtain ⟨a1,w1,h1⟩:=h.2;exact ⟨a1,w1,h1⟩
theorem Hu{L:Array Bool}{n:Nat}(hs:L.size=n){b:Bool}(d:Bool){j:Nat}(hj:j<n):(L.push b).getD j d=L.getD j d:=by
 simp [Array.getD_eq_getD_getElem?,Array.getElem?_push,hs,Nat.ne_of_lt hj]
theorem Ww{L:Array Bool}{n:Nat}(hs:L.size=n)(d:Bool):(L.push false).getD n d=false:=by
 subst hs;simp [Array.getD_eq_getD_getElem?]
section
variable {P:Program} {md:Region.Mode} {ops:Array Oper} {Q:Exit→Act→World→Prop} {n:Nat}
theorem Yt(hn:ops.size=n+1)(hc:Nu md ops=true){L:Array Bool}(hs:L.size=n){i:Nat}(hi:i<n):i∈Region.ready md ops (L.push false)↔i∈Region.ready md ops.pop L:=by
 obtain ⟨o,ho,hg,hlt,-⟩:=Jm hc (i:=i) (by omega);have ho':ops.pop[i]? =some o:=by rw [Array.getElem?_pop,if_pos (by omega)];exact ho
 rw [mem_ready,mem_ready,ho,ho',Hu hs _ hi]
 constructor
 ·rintro ⟨h0,o',e,h⟩;refine ⟨h0,o',e,fun e' he hb=> ?_⟩;obtain rfl:=Option.some.inj e;rw [←Hu hs (b:=false) _ (by have:=hlt e' he;omega)];exact h e' he hb
 rintro ⟨h0,o',e,h⟩;refine ⟨h0,o',e,fun e' he hb=> ?_⟩;obtain rfl:=Option.some.inj e;rw [Hu hs _ (by have:=hlt e' he;omega)];exact h e' he hb
theorem Uc(hn:ops.size=n+1)(hc:Nu md ops=true){L:Array Bool}(hs:L.size=n)(hcl:BT md ops n L)(hr:n∈Region.ready md ops (L.push false)):∀k i,n≤i+k→i<n→L.getD i false=true
 |0,i,h,hi=>by omega
 | k+1,i,h,hi=>by
   obtain ⟨o,ho,hg,hlt,hex⟩:=Jm hc (i:=i) (by omega);obtain ⟨j,p,hij,hp,e,he,hb,rfl⟩:=hex (by omega);have hjn:j<n+1:=by rw [←hn];exact (Array.getElem?_eq_some_iff.1 hp).1
   by_cases hj:j=n
   ·subst hj;obtain ⟨-,o',e',h'⟩:=mem_ready.1 hr;rw [hp] at e';obtain rfl:=Option.some.inj e';rw [←Hu hs (b:=false) _ hi];exact h' e he hb
   exact hcl j (by omega) (Uc hn hc hs hcl hr k j (by omega) (by omega)) p hp e he hb
theorem Ub(hn:ops.size=n+1)(hc:Nu md ops=true){L:Array Bool}(hs:L.size=n)(hr:Region.ready md ops.pop L= []):∀k i,i<k→i<n→L.getD i false=true
 |0,i,h,_=>by omega
 | k +1,i,h,hi=>by
   cases hg:L.getD i false with
   |true=>rfl
   | false=>
    exfalso
    obtain ⟨o,ho,-,hlt,-⟩:=Jm hc (i:=i) (by omega);have ho':ops.pop[i]? =some o:=by rw [Array.getElem?_pop,if_pos (by omega)];exact ho
    have ht:L.getD i true=false:=by
     have hl:i<L.size:=by omega
     simpa [Array.getD_eq_getD_getElem?,hl] using hg
    have hm:i∈Region.ready md ops.pop L:=mem_ready.2 ⟨ht,o,ho',fun e he _=>Ub hn hc hs hr k e.on (by have:=hlt e he;omega) (by have:=hlt e he;omega)⟩;rw [hr] at hm
    cases hm
theorem BW(hn:ops.size=n+1)(hc:Nu md ops=true):∀(fuel:Nat) (L:Array Bool) (a:Act) (w:World),L.size=n→BT md ops n L→wpAny P md ops.pop (JQ P ops Q n) fuel L a w→wpAny P md ops Q (fuel+1) (L.push false) a w:=by
 -- all but the last have come up
 have fin:∀(fuel:Nat) (L:Array Bool) (a:Act) (w:World),L.size=n→BT md ops n L→Region.ready md ops.pop L= []→JQ P ops Q n .normal a w→wpAny P md ops Q (fuel+1) (L.push false) a w:=by
  intro fuel L a w hs hcl hr hq;have hall:=Ub hn hc hs hr;obtain ⟨o,ho,hg,hlt,-⟩:=Jm hc (i:=n) (by omega)
  have hlast:n∈Region.ready md ops (L.push false):=mem_ready.2 ⟨Ww hs _,o,ho,fun e he _=>by
   rw [Hu hs _ (hlt e he)];exact hall n e.on (hlt e he) (hlt e he)⟩
  refine ⟨fun h0=>absurd hlast (by rw [h0];simp),fun i hi=> ?_⟩
  have hin:i=n:=by
   have h1:=(mem_ready.1 hi).1
   by_cases hlt':i<n
   ·rw [Hu hs _ hlt'] at h1;have h2:=hall n i hlt' hlt';have hl:i<L.size:=by omega
    simp [Array.getD_eq_getD_getElem?,hl] at h1 h2;rw [h1] at h2;cases h2
   have h2:i<n+1:=by rw [←hn];obtain ⟨-,o',e',-⟩:=mem_ready.1 hi;exact (Array.getElem?_eq_some_iff.1 e').1
   omega
  subst hin;refine wpOp_mono (fun a' w' h'=> ?_) hq
  have hnone:Region.ready md ops ((L.push false).setIfInBounds i true)= []:=by
   rw [List.eq_nil_iff_forall_not_mem];intro k hk;obtain ⟨h1,o',e',-⟩:=mem_ready.1 hk;have h2:k<i+1:=by rw [←hn];exact (Array.getElem?_eq_some_iff.1 e').1
   by_cases hki:k=i
   ·subst hki;simp [Array.getD_eq_getD_getElem?,hs] at h1
   have hkl:k<i:=by omega
   have h3:=hall i k hkl hkl;have hl:k<L.size:=by omega
   rw [Array.getD_eq_getD_getElem?,Array.getElem?_setIfInBounds_ne (fun h=>hki h.symm)] at h1;rw [←Array.getD_eq_getD_getElem?,Hu hs _ hkl] at h1;simp [Array.getD_eq_getD_getElem?,hl] at h1 h3;rw [h1] at h3;cases h3
  cases fuel with
  |zero=>exact ⟨hnone,h'⟩
  |succ f=>exact ⟨fun _=>h',by rw [hnone];simp⟩
 intro fuel
 induction fuel with
 |zero=>intro L a w hs hcl h;exact fin 0 L a w hs hcl h.1 h.2
 | succ f ih=>
  intro L a w hs hcl h
  by_cases hr:Region.ready md ops.pop L= []
  ·exact fin (f+1) L a w hs hcl hr (h.1 hr)
  have hlt:∀i∈Region.ready md ops (L.push false),i<n:=by
   intro i hi;obtain ⟨-,o',e',-⟩:=mem_ready.1 hi;have h2:i<n+1:=by rw [←hn];exact (Array.getElem?_eq_some_iff.1 e').1
   by_cases hin:i=n
   ·exfalso
    subst hin;have hall:=Uc hn hc hs hcl hi;apply hr;rw [List.eq_nil_iff_forall_not_mem];intro k hk;obtain ⟨h1,o2,e2,-⟩:=mem_ready.1 hk
    have h3:k<i:=by
     have:=(Array.getElem?_eq_some_iff.1 e2).1;simp at this;omega
    have h4:=hall i k (by omega) h3;have hl:k<L.size:=by omega
    simp [Array.getD_eq_getD_getElem?,hl] at h1 h4;rw [h1] at h4;cases h4
   omega
  refine ⟨fun h0=> ?_,fun i hi=> ?_⟩
  ·exfalso
   apply hr;rw [List.eq_nil_iff_forall_not_mem];intro k hk
   have h3:k<n:=by
    obtain ⟨-,o2,e2,-⟩:=mem_ready.1 hk;have:=(Array.getElem?_eq_some_iff.1 e2).1;simp at this;omega
   have:=(Yt hn hc hs h3).2 hk;rw [h0] at this;cases this
  have hin:=hlt i hi;have hi':=(Yt hn hc hs hin).1 hi;refine JS hn hc hin (fun a' w' h'=> ?_) (h.2 i hi')
  have e1:(L.push false).setIfInBounds i true=(L.setIfInBounds i true).push false:=by
   apply Array.ext_getElem?;intro k;simp only [Array.getElem?_setIfInBounds,Array.getElem?_push,Array.size_push,Array.size_setIfInBounds]
   by_cases hk:i=k
   ·subst hk;have hl:i<L.size:=by omega
    simp [Nat.ne_of_lt hl,hl];omega
   simp [hk]
  rw [e1];refine ih _ a' w' (by simpa using hs) ?_ h';intro j hj hjl p hp e he hb;obtain ⟨o,ho,-,hlt2,-⟩:=Jm hc (i:=j) (by omega);rw [hp] at ho;obtain rfl:=Option.some.inj ho;have hej:=hlt2 e he
  by_cases hji:j=i
  ·subst hji;have h5:=(mem_ready.1 hi').2;obtain ⟨o2,e2,h6⟩:=h5;have e3:ops.pop[j]? =some p:=by rw [Array.getElem?_pop,if_pos (by omega)];exact hp
   rw [e3] at e2;obtain rfl:=Option.some.inj e2;have h7:=h6 e he hb;rw [Array.getD_eq_getD_getElem?,Array.getElem?_setIfInBounds_ne (by omega),←Array.getD_eq_getD_getElem?];exact h7
  rw [Array.getD_eq_getD_getElem?,Array.getElem?_setIfInBounds_ne (fun h=>hji h.symm),←Array.getD_eq_getD_getElem?] at hjl;have h7:=hcl j hj hjl p hp e he hb
  by_cases hei:i=e.on
  ·have hl:i<L.size:=by omega
   rw [←hei];simp [Array.getD_eq_getD_getElem?,hl]
  rw [Array.getD_eq_getD_getElem?,Array.getElem?_setIfInBounds_ne hei,←Array.getD_eq_getD_getElem?];exact h7
end
theorem Uy{P:Program}{ops:Array Oper}{Q:Exit→Act→World→Prop}{id n:Nat}{a:Act}{w:World}(hm:P.follows .mixedOrders=true)(hn:ops.size=n+1)(hc:Nu .any ops=true)(h:∀R:Exit→Act→World→Prop,(∀a w,wpOp P ops Q n (fun a w=>Q .normal a w) a w→R .normal a w)→(∀e a w,e≠ .normal→Q e a w→R e a w)→(∀c a a' w,(Q (.panic c) a w→Q (.panic c) a' w)→R (.panic c) a w→R (.panic c) a' w)→wpAny P .any ops.pop R n (Array.replicate n false) a w.drew):(Code.region id ops true).wp P Q a w:=by
 refine wp_region_any hm ?_
 have e:Array.replicate ops.size false=(Array.replicate n false).push false:=by
  rw [hn];apply Array.ext_getElem?;intro k;simp only [Array.getElem?_push,Array.getElem?_replicate,Array.size_replicate];by_cases h1:k=n
  ·subst h1;simp
  by_cases h2:k<n
  ·simp [h1,h2,Nat.lt_succ_of_lt h2]
  simp [h1,h2];omega
 rw [e,hn];refine BW hn hc n _ a _ (by simp) (fun j hj hl=> ?_) (h (JQ P ops Q n) (fun a w h=>h) (fun e a w he h=>by cases e<;>first|exact h|exact absurd rfl he) (fun c a a' w h h'=>h h'));simp [Array.getD_eq_getD_getElem?,hj] at hl
theorem Ck{P:Program}{ops:Array Oper}{Q:Exit→Act→World→Prop}{S:World→Prop}{id n:Nat}{ty st:TypeId}{pos:String}{af:Array Edge}{p v:Operand}{a:Act}{w:World}(hm:P.follows .mixedOrders=true)(hn:ops.size=n+1)(hc:Nu .any ops=true)(ho:ops[n]? =some ⟨none,.store st p v,ty,pos,af,none⟩)(hS:S w.drew)
  (h:∀R:Exit→Act→World→Prop,(∀a w,(∀K':Act→World→Prop,(∀a w,Q .normal a w→K' a w)→Oper.wp P ⟨none,.store st p v,ty, "",#[],none⟩ a w K' Q)→R .normal a w)→(∀c a a' w,(Q (.panic c) a w→Q (.panic c) a' w)→R (.panic c) a w→R (.panic c) a' w)→S w.drew→wpAnyH P .any ops.pop R S n (Array.replicate n false) a w.drew):(Code.region id ops true).wp P Q a w:=
 Uy hm hn hc fun R h1 _ h3=>wpAny_of_held _ _ _ _ (h R (fun a w hk=>h1 a w (by
  have h0:=hk (fun a w=>Q .normal a w) (fun _ _ h=>h);unfold wpOp;rw [ho];show if Region.wanted _ (yielded ops a.tmps)=true then _ else _
  rw [if_pos (by rfl)];exact .inl h0)) h3 hS)
theorem Bw{P:Program}{md:Region.Mode}{ops:Array Oper}{Q:Exit→Act→World→Prop}{S:World→Prop}{n:Nat}{L:Array Bool}{a:Act}{W:World}(F:World→Prop)(hF:F W)(h:∀W',F W'→wpAnyH P md ops Q S n L a W'):wpAnyH P md ops Q S n L a W:=h W hF
end Go.Proofs.YtkfillfkbhbbjaaGreatDoor
