/- DWf, DWg, Kid, DWh, DWi, DWj, DWk. -/
import Derived.Test.YtkfillfkbhbbjaaGreatDoorDWe
import Derived.Test.YtkfillfkbhbbjaaGreatDoorPrgA
import Derived.Test.YtkfillfkbhbbjaaGreatDoorNamC
import Derived.Deep.Light
import Derived.Deep.CutBlock
import Derived.Deep.RegionHeld3
import Derived.Test.YtkfillfkbhbbjaaGreatDoorPLf
import Derived.Deep.QuietTactic
set_option maxRecDepth 100000
set_option maxHeartbeats 4000000
set_option linter.unusedSimpArgs false
set_option linter.unusedVariables false
namespace Go.Proofs.YtkfillfkbhbbjaaGreatDoor
open Go.RowKit
theorem jge{p:Prop}(h:p:=by
 clear hm HZ1 HB0
 go_upto_if 22 with fail
 go_cut [1] (fun s1 W=>s1= .int .i64 z∧Ac [] w W)
 case first=>
  go_wp2_with fail
  go_meet
  case rel=>exact ⟨by rw [HZ2.1],HK2.1.trans (fp':= []) Av qg⟩
 obtain ⟨rfl,hk⟩:=hcut;replace HD:=zh (HD.1.kp0 hk);have HK:=zh hk;clear hk HB hmn;generalize wc=wq at*
 exact OG):p:=h
theorem CR(name:ByteArray):∀(l:List ByteArray) (i:Nat),decide (Ot name l i<0)= !Dn name l
 | [],i=>by simp [Ot,Dn]
 | x::l,i=>by
   rw [Ot,Dn]
   split
   ·simp
   exact CR name l (i+1)
theorem Lo{st st':DS}{t:Ae}{i:Nat}(h:Um st t=some (i,st')):(∃k,Fi t st.things 0=some k∧k=i∧st'=st)∨(Fi t st.things 0=none∧st.things.length<1000000∧i=st.things.length∧st'={st with things:=st.things++ [⟨t,st.things.length⟩]}):=by
 unfold Um at h
 cases hf:Fi t st.things 0 with
 |some k=>rw [hf] at h;cases h;exact .inl ⟨_,rfl,rfl,rfl⟩
 |none=>
  rw [hf] at h;simp only at h
  split at h
  ·rename_i hl;cases h;exact .inr ⟨rfl,hl,rfl,rfl⟩
  cases h
theorem OG{p:Prop}(h:p:=by
 go_wp2_with fail
 go_loopg [7] (st.things.length+1) (fun g j wr=>OfJ t st (Fi t st.things 0) wq g j wr)
 case atStart=>exact jbc
 obtain ⟨k,rfl,hk1,hk2,hm,hk⟩:=hrel;have HDr:=zh (HD.1.kp0 hk);have HKr:=zh (HK.1.trans hk qg);have HKq:=zh hk;clear hk;obtain ⟨l_c,c0,c1,c2,c3,c4,c5,c6,c7,c8,c9,y0,y1,y2,y3,y4,y5,y6,y7,y8,y9⟩:=Ke HDr.1.row;have hcap:=HDr.1.things.cap
 by_cases hlt:k<st.things.length
 ·obtain ⟨g2,hta,l2,-,-,d0,d1,d2⟩:=HDr.1.thing (List.getElem?_eq_getElem hlt);rw [List.drop_eq_getElem_cons hlt,Fi] at hm;rw [hta] at c2;generalize st.things[k]=y at*
  by_cases he1:t.1=y.t.1
  ·have hb1:((y.t.1:Int) -1==z)=true:=by rw [HZ.1];simp [he1]
   by_cases he2:same t.2 y.t.2=true
   ·have hb2:(y.t.2.toList==name.toList)=true:=by rw [Ct,Gd,←HN.1];exact he2
    rw [if_pos (by simp [Oq,he1,he2])] at hm;have HV:=zh hm;clear hm he1 he2 hk1 hk2
    go_wp2_with fail
    refine Ap (v:= .int .i64 k) (fun W=>Ac [] wr W) Av (fun w1 hW=>by simp [results,Jo,go_sem]) rfl (fun w1 hW=> ?_)
    rcases Lo HO.1 with ⟨k',h1,h2,h3⟩|⟨h1,-⟩
    ·rw [h1] at HV;have:=HV.1;simp at this;subst h3;exact ⟨A.ta,A.tc,by rw [←h2,←this],HDr.1.kp0 hW,KT.of0 (HKr.1.trans hW qg)⟩
    rw [h1] at HV;cases HV.1
   have hb2:(y.t.2.toList==name.toList)=false:=by rw [Ct,Gd,←HN.1];simpa using he2
   rw [if_neg (by simp [Oq,he2])] at hm;have HM:=zh hm;clear hm he1 he2;exact qve
  have hb1:((y.t.1:Int) -1==z)=false:=by rw [HZ.1];exact beq_false_of_ne jh
  rw [if_neg (by simp [Oq,he1])] at hm;have HM:=zh hm;clear hm he1;exact qve
 have hke:k=st.things.length:=by omega
 subst hke;rw [List.drop_length,Fi] at hm
 rcases Lo HO.1 with ⟨k',h1,h2,h3⟩|⟨-,hlen,h2,h3⟩
 ·rw [h1] at hm;cases hm
 subst h2 h3;clear hm;obtain ⟨i117,hi117⟩:=UN;have HI:=zh hi117;have HTC:=zh (show JU ⟨t,st.things.length⟩= [.int .i64 z,.string name,.int .i64 st.things.length] by have h1:=HZ.1;have h2:=HN.1;subst h1 h2;rfl);clear hi117 hk1 hk2
 go_upto_region 8 with fail
 clear c0 c1 c3 c4 c5 c6 c7 c8 c9 y0 y1 y3 y4 y5 y6 y7 y8 y9
 go_cut [] (fun W=>∃g cp,DK K {A with ta:=some ⟨g,0,none⟩,tc:=cp} x {st with things:=st.things++ [⟨t,st.things.length⟩]} W∧Bh wr W)
 case first=>
  go_region_law (refine Gr (fun W=>Ac [] wr W∧W.heap[wr.heap.size]? =some (.cells (JU ⟨t,st.things.length⟩).toArray 117 (0,0))) ⟨Av,by rw [HTC.1];exact Nv⟩ ?_;rintro wa ⟨hka,cG⟩;refine Mx thL th1 rfl (.tmp 59) (.tmp 68) rfl Tryz.underlying110 HI.1.1 HI.1.2.1 HI.1.2.2.1 HI.1.2.2.2 rfl zi zi rfl rfl (HDr.1.kp0 hka).things (x:=(⟨t,st.things.length⟩:Ea)) ⟨_,cG⟩ (HDr.1.kp0 hka).keep.size jh ?_;rintro g cp wb ⟨hro,hkt,hgt,hk0⟩;have r_c:=hkt.at (HDr.1.kp0 hka).row qg;have lb:=Ad r_c;have b2:=Aa r_c 2;have v2:=Ab r_c 2;simp at b2)
  all_goals
   go_wp2_with fail
   go_meet
   exact ⟨g,cp,And.imp_right (KT.of0 hka).trans ((HDr.1.kp0 hka).grewT hK hro hkt hk0 Av (Kj r_c))⟩
 obtain ⟨g,cp,hd,hs⟩:=hcut;have HDl:=zh hd;have HSl:=zh hs;clear hd hs l_c c2 y2;generalize wc=wl at*
 obtain ⟨l_c,c0,c1,c2,c3,c4,c5,c6,c7,c8,c9,y0,y1,y2,y3,y4,y5,y6,y7,y8,y9⟩:=Ke HDl.1.row;have hle:(((st.things++ [(⟨t,st.things.length⟩:Ea)]).length:Nat):Int) -1=(st.things.length:Int):=by simp
 have hlb:(st.things++ [(⟨t,st.things.length⟩:Ea)]).length≤1000001:=by simp;omega
 go_wp2_with fail
 refine Ap (v:= .int .i64 st.things.length) (fun W=>Ac [] wl W) Av (fun w1 hW=>by simp [results,Jo,go_sem]) rfl (fun w1 hW=>⟨rfl,⟨_,_,HDl.1.kp0 hW⟩,((KT.of0 HKr.1).trans HSl.1).add hW⟩)):p:=h
theorem Oo{K:Br}(hK:Ff K){A:DA}{x:DX}{st st':DS}{w:World}(h:DK K A x st w)(n:Nat)(hn:n≤K.g.funcs.length)(name:ByteArray){v:Int}(hv:v=(n:Int) -1){i:Nat}(ho:Um st (Du K.g n name)=some (i,st'))(hl:st.things.length≤1000000):Calls Tryz.prog 53 #[.pointer (some ⟨K.c,0,none⟩),.int .i64 v,.string name] w fun r w'=>∃ta tc,r= .returned (.int .i64 i)∧DK K {A with ta:=ta,tc:=tc} x st' w'∧Bh w w':=by
 have HD:=zh h;have HK:=zh (Ac.refl [] w);have HO:=zh ho;have hsm:=hK.small;clear h ho;obtain ⟨t,ht⟩:∃t,t=Du K.g n name:=⟨_,rfl⟩;rw [←ht] at HO;obtain ⟨z,hz⟩:∃z:Int,z=(t.1:Int) -1:=⟨_,rfl⟩;have HN:=zh (show t.2=name by rw [ht];unfold Du;split<;>rfl)
 rcases Nat.eq_zero_or_pos n with h0|hpos
 ·have hv1:v= -1:=by rw [hv,h0];rfl
  have HZ1:=zh (show z= -1 by rw [hz,ht,h0];simp [Du]);have HZ:=zh hz;clear ht hv hz h0;subst hv1
  go_enter Tryz.func53,Tryz.ntmps53
  obtain ⟨l_c,c0,c1,c2,c3,c4,c5,c6,c7,c8,c9,y0,y1,y2,y3,y4,y5,y6,y7,y8,y9⟩:=Ke HD.1.row
  go_upto_if 22 with fail
  go_cut [1] (fun s1 W=>s1= .int .i64 z∧Ac [] w W)
  case first=>
   go_wp2_with fail
   go_meet
   case rel=>exact ⟨by rw [HZ1.1],Av⟩
  obtain ⟨rfl,hk⟩:=hcut;replace HD:=zh (HD.1.kp0 hk);have HK:=zh hk;clear hk l_c c0 c1 c2 c3 c4 c5 c6 c7 c8 c9 y0 y1 y2 y3 y4 y5 y6 y7 y8 y9;generalize wc=wq at*
  exact OG
 obtain ⟨m,rfl⟩:∃m,n=m+1:=⟨n -1,by omega⟩;have hv1:v=(m:Int):=by rw [hv];omega
 have hml:m<K.g.funcs.length:=by omega
 have HZ1:=zh (show (Dn name K.g.funcs[m].params=true→z=(m:Int))∧(Dn name K.g.funcs[m].params=false→z= -1) by
  have hp:Bk K.g (m+1)=K.g.funcs[m].params:=by simp [Bk,hml]
  rw [hz,ht];unfold Du;rw [hp]
  constructor<;>intro q
  ·rw [if_pos ⟨by omega,q⟩];simp
  rw [if_neg (by simp [q])];rfl)
 have HZ:=zh hz;clear ht hv hz;subst hv1;have hps:=hK.psmall _ (List.getElem_mem hml);obtain ⟨g2,o2,pa,pc,b0,b1,b2,b3,b4,hfa,d0,d1,d2,d3,d4,d5,d6,d7,hp,hbody,l2⟩:=HD.1.func hK hml;obtain ⟨bt,bm,ba,bl,bc,br,bi,hbv,-,-⟩:=hbody.shape;obtain ⟨rfl,rfl,rfl,rfl,rfl⟩:b0= .int .i64 K.g.funcs[m].body.kind∧b1= .string bt∧b2= .float .f64 bm∧b3= .slice ba bl bc∧b4= .complex .f64 br bi:=by simpa using hbv
 have HP:=zh (fun W (hk:Ac [] w W)=>Yx (HD.1.kp0 hk).keep hp hps K.g.funcs[m].name (b0:=K.g.funcs[m].body.kind) (s0:=bt) (f0:=bm) (a0:=ba) (n0:=bl) (m0:=bc) (r0:=br) (i0:=bi) (re:=K.g.funcs[m].re) (im:=K.g.funcs[m].im) name);clear hbody hbv hp;generalize K.g.funcs[m]=q at*
 go_enter Tryz.func53,Tryz.ntmps53
 obtain ⟨l_c,c0,c1,c2,c3,c4,c5,c6,c7,c8,c9,y0,y1,y2,y3,y4,y5,y6,y7,y8,y9⟩:=Ke HD.1.row;rw [hfa] at c1
 go_wp2_with fail
 refine (HP.1 _ Av).mono ?_;rintro r w2 ⟨rfl,hk2⟩;have HK2:=zh hk2;clear l_c c0 c1 c2 c3 c4 c5 c6 c7 c8 c9 y0 y1 y2 y3 y4 y5 y6 y7 y8 y9 hk2 d0 d1 d2 d3 d4 d5 d6 d7 HP;have hmn:decide ((m:Int)<0)=false:=by simp
 have HB0:=CR name q.params 0
 cases hm:Dn name q.params with
 |true=>
  have HB:decide (Ot name q.params 0<0)=false:=by rw [HB0,hm];rfl
  have HZ2:=zh (HZ1.1.1 hm);exact jge
 |false=>
  have HB:decide (Ot name q.params 0<0)=true:=by rw [HB0,hm];rfl
  have HZ2:=zh (HZ1.1.2 hm);exact jge
theorem us1(x:Gq):∀u∈RX x,u.oneCell'=true:=by intro u hu;simp [RX] at hu;rcases hu with rfl|rfl|rfl<;>rfl
theorem AY:∃i,Tryz.prog.info? 149=some i∧i.zero=some (.agg #[.int .i64 0,.int .i64 0,.complex .f64 0 0])∧i.size=3∧i.bytes=32:=by
 have h:(Tryz.prog.info? 149).map (fun i=>(i.zero,i.size,i.bytes))=some (some (.agg #[.int .i64 0,.int .i64 0,.complex .f64 0 0]),3,32):=by kernel_rfl
 cases hi:Tryz.prog.info? 149 with
 |none=>rw [hi] at h;cases h
 |some i=>rw [hi] at h;simp at h;exact ⟨i,rfl,h.1,h.2.1,h.2.2⟩
theorem DK.grew'{K:Br}(hK:Ff K){A A':DA}{x:DX}{st st':DS}{w1 w2 w3:World}{t:TypeId}(h:DK K A x st w1)(hk:KT [t] w1 w2)(ht:t∈JK)(ht':t≠114)(h0:∀k,k<K.w0.heap.size→w2.heap[k]? =w1.heap[k]?)(hk2:Ac [K.c] w2 w3)(hrow:w3.heap[K.c]? =some (dC K A' x st'))(r1:Dz 117 3 JU w2 K.w0.heap.size st'.things A'.ta A'.tc)(r2:Dz 149 3 RX w2 K.w0.heap.size st'.uses A'.ua A'.uc)(r3:Dz 180 3 XX w2 K.w0.heap.size st'.calls A'.ca A'.cc):DK K A' x st' w3∧Bh w1 w3:=by
 have k2:KT [114] w2 w3:=KT.ofOne hk2 (hk.at h.row (by simp;exact Ne.symm ht')) qg;have up:∀{ts:List TypeId} {a b:World},KT ts a b→(∀t∈ts,t∈JK)→KT JK a b:=fun hk hs=>⟨hk.os,hk.tape,hk.output,hk.size,fun k hl hn=>hk.block k hl fun c t f hc hm=>hn c t f hc (hs t hm)⟩
 have k12:Bh w1 w3:=KT.trans (up hk (by simpa using ht)) (up k2 qg);refine ⟨⟨⟨k12.os.trans h.keep.os,k12.tape.trans h.keep.tape,k12.output.trans h.keep.output,Nat.le_trans h.keep.size k12.size,fun k hl _=> ?_⟩,hrow,r1.kp fun g' c hg' _=>(k2.at hg' qg).trans hg'.symm,r2.kp fun g' c hg' _=>(k2.at hg' qg).trans hg'.symm,r3.kp fun g' c hg' _=>(k2.at hg' qg).trans hg'.symm⟩,k12⟩;have hkc:k≠K.c:=by have:=hK.c;omega
 have hs:=hk.size;have hs0:=h.keep.size;rw [hk2.block k jh (by simpa using hkc),h0 k hl];exact h.keep.block k hl qg
theorem DK.grewU{K:Br}(hK:Ff K){A:DA}{x:DX}{st:DS}{w1 w2 w3:World}{g cp:Nat}{y:Gq}(h:DK K A x st w1)(hr:Dz 149 3 RX w2 K.w0.heap.size (st.uses++ [y]) (some ⟨g,0,none⟩) cp)(hk:KT [149] w1 w2)(h0:∀k,k<K.w0.heap.size→w2.heap[k]? =w1.heap[k]?)
  (hk2:Ac [K.c] w2 w3) (hrow:w3.heap[K.c]? =some (.cells #[.slice K.ra K.g.rules.length K.rc,.slice K.fa K.g.funcs.length K.fc,.slice A.ta st.things.length A.tc,.slice (some ⟨g,0,none⟩) (st.uses.length+1) cp,.slice A.ca st.calls.length A.cc,.int .i64 x.e,.complex .f64 x.re x.im,.int .i64 x.fn,.int .i64 x.kind,.int .i64 x.loops] 114 (0,0))):
  DK K {A with ua:=some ⟨g,0,none⟩,uc:=cp} x {st with uses:=st.uses++ [y]} w3∧Bh w1 w3:=
 h.grew' hK hk qg zi h0 hk2 (by rw [hrow];simp [dC]) (h.things.kp fun g c hg _=>(hk.at hg qg).trans hg.symm) hr (h.calls.kp fun g c hg _=>(hk.at hg qg).trans hg.symm)
theorem DK.grewC{K:Br}(hK:Ff K){A:DA}{x:DX}{st:DS}{w1 w2 w3:World}{g cp:Nat}{y:Xs}(h:DK K A x st w1)(hr:Dz 180 3 XX w2 K.w0.heap.size (st.calls++ [y]) (some ⟨g,0,none⟩) cp)(hk:KT [180] w1 w2)(h0:∀k,k<K.w0.heap.size→w2.heap[k]? =w1.heap[k]?)
  (hk2:Ac [K.c] w2 w3) (hrow:w3.heap[K.c]? =some (.cells #[.slice K.ra K.g.rules.length K.rc,.slice K.fa K.g.funcs.length K.fc,.slice A.ta st.things.length A.tc,.slice A.ua st.uses.length A.uc,.slice (some ⟨g,0,none⟩) (st.calls.length+1) cp,.int .i64 x.e,.complex .f64 x.re x.im,.int .i64 x.fn,.int .i64 x.kind,.int .i64 x.loops] 114 (0,0))):
  DK K {A with ca:=some ⟨g,0,none⟩,cc:=cp} x {st with calls:=st.calls++ [y]} w3∧Bh w1 w3:=
 h.grew' hK hk qg zi h0 hk2 (by rw [hrow];simp [dC]) (h.things.kp fun g c hg _=>(hk.at hg qg).trans hg.symm) (h.uses.kp fun g c hg _=>(hk.at hg qg).trans hg.symm) hr
theorem Sw{st st':DS}{t:Ae}{i:Nat}(h:Um st t=some (i,st')):∃th,st'={st with things:=th}:=by
 rcases Lo h with ⟨k,-,-,h3⟩|⟨-,-,-,h3⟩
 ·exact ⟨st.things,h3⟩
 exact ⟨_,h3⟩
theorem Rb{K:Br}(hK:Ff K){A:DA}{x:DX}{st st1 st':DS}{w:World}(h:DK K A x st w)(n:Nat)(hn:n≤K.g.funcs.length)(name:ByteArray){v:Int}(hv:v=(n:Int) -1)(how:Int)(re im:Nat){i:Nat}(ho:Um st (Du K.g n name)=some (i,st1))(hu:Jx st1 ⟨i,how,re,im⟩=some st')(hl:st.things.length≤1000000):Calls Tryz.prog 85 #[.pointer (some ⟨K.c,0,none⟩),.int .i64 v,.string name,.int .i64 how,.complex .f64 re im] w fun r w'=>r= .returned (.tuple #[])∧(∃A',DK K A' x st' w')∧Bh w w':=by
 have HD:=zh h
 have HOF:Hd (∀W,Ac [] w W→Calls Tryz.prog 53 #[.pointer (some ⟨K.c,0,none⟩),.int .i64 v,.string name] W fun e w'=>∃u,e= .returned u∧u= .int .i64 i∧∃ta tc,DK K {A with ta:=ta,tc:=tc} x st1 w'∧Bh w w'):=
  zh fun W hk=>(Oo hK (h.kp0 hk) n hn name hv ho hl).mono fun e w' ⟨ta,tc,h1,h2,h3⟩=>⟨_,h1,rfl,ta,tc,h2,(KT.of0 hk).trans h3⟩
 obtain ⟨th,rfl⟩:=Sw ho
 obtain ⟨hul,rfl⟩:st.uses.length<1000000∧st'=⟨th,st.uses++ [⟨i,how,re,im⟩],st.calls⟩:=by
  unfold Jx at hu;split at hu
  ·rename_i h;exact ⟨h,by simpa using hu.symm⟩
  cases hu
 obtain ⟨i149,hi149⟩:=AY;have HI:=zh hi149;clear h ho hu hv hi149
 go_enter Tryz.func85,Tryz.ntmps85
 have l_c:=HD.1.lt;have c3:=Aa HD.1.row 3;have y3:=Ab HD.1.row 3;simp at c3
 go_region_law (first|((fail_if_success (have hm9:=hcu));refine Bd (f:=53) (vals:= #[.pointer (some ⟨K.c,0,none⟩),.int .i64 v,.string name]) rfl _ rfl qh (HOF.1 _ jg) ?_;rintro vv u_ ⟨rfl,ta,tc,hcu,hsu⟩;have l_c2:=Ad hcu.row;have q3:=Aa hcu.row 3;have z3:=Ab hcu.row 3;simp at q3)|(refine Gr (fun W=>Ac [] u_ W∧W.heap[u_.heap.size]? =some (.cells (RX ⟨i,how,re,im⟩).toArray 149 (0,0))) ⟨by with_reducible repeat (first|exact k0 _ _|refine kA ?_ _|refine kD ?_|refine kS ?_ qg|refine kM ?_ qg),Nv⟩ ?_;rintro wa ⟨hka,cG⟩;refine Mx usL us1 rfl (.tmp 14) (.tmp 22) rfl Tryz.underlying111 HI.1.1 HI.1.2.1 HI.1.2.2.1 HI.1.2.2.2 rfl zi zi rfl rfl (hcu.kp0 hka).uses (x:=(⟨i,how,re,im⟩:Gq)) ⟨_,cG⟩ (hcu.kp0 hka).keep.size (Nat.le_of_lt hul) ?_;rintro g cp wb ⟨hro,hkt,hgt,hk0⟩;have r_c:=hkt.at (hcu.kp0 hka).row qg;have lb:=Ad r_c;have b3:=Aa r_c 3;have v3:=Ab r_c 3;simp at b3))
 all_goals
  go_wp2_with fail
  refine Cq (v:= .tuple #[]) (fun W=>Ac [K.c] wb W∧W.heap[K.c]? =some (.cells #[.slice K.ra K.g.rules.length K.rc,.slice K.fa K.g.funcs.length K.fc,.slice ta th.length tc,.slice (some ⟨g,0,none⟩) (st.uses.length+1) cp,.slice A.ca st.calls.length A.cc,.int .i64 x.e,.complex .f64 x.re x.im,.int .i64 x.fn,.int .i64 x.kind,.int .i64 x.loops] 114 (0,0))) ⟨Av,Kj r_c⟩ (fun w1 hW=>by simp [results,Jo,go_sem]) rfl (fun w1 hW=> ?_);have hgr:=(hcu.kp0 hka).grewU hK hro hkt hk0 hW.1 hW.2;exact ⟨rfl,⟨_,hgr.1⟩,(hsu.add hka).trans hgr.2⟩
theorem Cd{w:World}{g o:Nat}{v:Value}(h:w.cell? ⟨g,o,none⟩=some v):g<w.heap.size:=by
 rcases Nat.lt_or_ge g w.heap.size with h1|h1
 ·exact h1
 simp [World.cell?,Array.getElem?_eq_none h1] at h
theorem Hx.get{w:World}{S:Nat→Prop}{g:Nat}:∀{ns:List Af} {o:Nat},Hx w S g o ns→∀{i:Nat} (hi:i<ns.length),∃c0 c1 c2 c3 c4,w.cell? ⟨g,o+i*5,none⟩=some c0∧w.cell? ⟨g,o+i*5+1,none⟩=some c1∧w.cell? ⟨g,o+i*5+2,none⟩=some c2∧w.cell? ⟨g,o+i*5+3,none⟩=some c3∧w.cell? ⟨g,o+i*5+4,none⟩=some c4∧Au w S ns[i] (.agg #[c0,c1,c2,c3,c4])
 | [],_,_,i,hi=>by simp at hi
 | n ::ns,o,h,i,hi=>by
   cases h with
   | cons hn h0 h1 h2 h3 h4 hr=>
    cases i with
    |zero=>exact ⟨_,_,_,_,_,by simpa using h0,by simpa using h1,by simpa using h2,by simpa using h3,by simpa using h4,hn⟩
    |succ i=>
     have:=Hx.get hr (i:=i) (by simpa using hi);rw [show o+5+i*5=o+(i+1)*5 from by omega] at this
     simpa using this
theorem Au.kids{w:World}{S:Nat→Prop}{n:Af}{v:Value}(h:Au w S n v):∃fm na nc,v= .agg #[.int .i64 n.kind,.string n.name,.float .f64 fm,.slice na n.kids.length nc,.complex .f64 n.re n.im]∧Bc w S n.kids (.slice na n.kids.length nc):=by
 cases h with
 |mk hk=>
  obtain ⟨a,cap,rfl⟩:=hk.shape;exact ⟨_,_,_,rfl,hk⟩
theorem CK.kid{K:Ba}{T:Nat→Prop}{ua:Option Addr}{uc:Nat}{st:NS}{W:World}(h:CK K T ua uc st W){kids:List Af}{a:Option Addr}{cap:Nat}(hs:Bc K.w0 (fun _=>True) kids (.slice a kids.length cap)){i:Nat}(hi:i<kids.length):
  ∃g o fm na nc,a=some ⟨g,o,none⟩∧W.cell? ⟨g,o+i*5,none⟩=some (.int .i64 kids[i].kind)∧W.cell? ⟨g,o+i*5+1,none⟩=some (.string kids[i].name)∧W.cell? ⟨g,o+i*5+2,none⟩=some (.float .f64 fm)∧W.cell? ⟨g,o+i*5+3,none⟩=some (.slice na kids[i].kids.length nc)∧W.cell? ⟨g,o+i*5+4,none⟩=some (.complex .f64 kids[i].re kids[i].im)∧
   Au K.w0 (fun _=>True) kids[i] (.agg #[.int .i64 kids[i].kind,.string kids[i].name,.float .f64 fm,.slice na kids[i].kids.length nc,.complex .f64 kids[i].re kids[i].im]):=by
 have key:∃g o,a=some ⟨g,o,none⟩∧g<K.w0.heap.size∧Hx K.w0 (fun _=>True) g o kids:=by
  exact zre
 obtain ⟨g,o,rfl,hg,hr⟩:=key;obtain ⟨c0,c1,c2,c3,c4,h0,h1,h2,h3,h4,hn⟩:=hr.get hi;obtain ⟨fm,na,nc,hv,hk⟩:=hn.kids;simp only [Value.agg.injEq,Array.mk.injEq,List.cons.injEq,and_true] at hv;obtain ⟨rfl,rfl,rfl,rfl,rfl⟩:=hv
 have hc:∀j u,K.w0.cell? ⟨g,j,none⟩=some u→W.cell? ⟨g,j,none⟩=some u:=fun j u hj=>by
  rw [World.cell?_of_block (w:=K.w0) (a:=⟨g,j,none⟩) (h.keep.block g hg qg)];exact hj
 exact ⟨g,o,fm,na,nc,rfl,hc _ _ h0,hc _ _ h1,hc _ _ h2,hc _ _ h3,hc _ _ h4,hn⟩
theorem CK.use{K:Ba}{T:Nat→Prop}{ua:Option Addr}{uc:Nat}{st:NS}{W:World}(h:CK K T ua uc st W){i:Nat}(hi:i<st.uses.length):
  ∃g,ua=some ⟨g,0,none⟩∧W.cell? ⟨g,i*8,none⟩=some (.complex .f64 st.uses[i].re st.uses[i].im)∧W.cell? ⟨g,i*8+1,none⟩=some (.int .i64 st.uses[i].of.1)∧W.cell? ⟨g,i*8+2,none⟩=some (.string st.uses[i].of.2)∧W.cell? ⟨g,i*8+3,none⟩=some (.bool st.uses[i].array)∧
   W.cell? ⟨g,i*8+4,none⟩=some (.int .i64 st.uses[i].param.1)∧W.cell? ⟨g,i*8+5,none⟩=some (.string st.uses[i].param.2)∧W.cell? ⟨g,i*8+6,none⟩=some (.bool st.uses[i].kid)∧W.cell? ⟨g,i*8+7,none⟩=some (.bool st.uses[i].bad):=by
 obtain ⟨xs,ho,ht,hx⟩:=h.uses
 rcases ho.2 with ⟨_,hn⟩|⟨g,cap,cur,hv,hb,hg,h1,h2,h3,h4⟩
 ·omega
 have hua:ua=some ⟨g,0,none⟩:=by injection hv
 obtain ⟨c,hc,hj⟩:=hx.get (fun a c h=>Ui.len h) i hi;have hc':c= [.complex .f64 st.uses[i].re st.uses[i].im,.int .i64 st.uses[i].of.1,.string st.uses[i].of.2,.bool st.uses[i].array,.int .i64 st.uses[i].param.1,.string st.uses[i].param.2,.bool st.uses[i].kid,.bool st.uses[i].bad]:=hc
 have key:∀j u,c[j]? =some u→W.cell? ⟨g,i*8+j,none⟩=some u:=fun j u h=>by
  rw [Aa hg];have h5:(cur.toList.take (st.uses.length*8))[i*8+j]? =some u:=by rw [h4];exact hj j u h
  rw [List.getElem?_take] at h5
  split at h5
  ·simpa using h5
  cases h5
 subst hc';exact ⟨g,hua,key 0 _ rfl,key 1 _ rfl,key 2 _ rfl,key 3 _ rfl,key 4 _ rfl,key 5 _ rfl,key 6 _ rfl,key 7 _ rfl⟩
theorem Jh{st st':NS}{u:Kf}(h:Hp st u=some st'):st.uses.length<400000∧st'={st with uses:=st.uses++ [u]}:=by
 unfold Hp at h
 split at h
 ·rename_i hl;exact ⟨hl,by simpa using h.symm⟩
 cases h
theorem CK.app{K:Ba}(hK:Dp K){T:Nat→Prop}{ua a2:Option Addr}{uc c2:Nat}{st:NS}{u:Kf}{base W0 wq wa W':World}{fl:List Nat}(hs0:Ak K T T base W0)(h:CK K T ua uc st W0)(hq:Ac [] W0 wq)(hfl:∀x∈fl,T x)(hka:Ac fl wq wa)(hown:Ax VR 106 8 wa K.w0.heap.size (fun g=>T g∨False∨(wq.heap.size≤g∧g<wa.heap.size)) (st.uses++ [u]) (.slice a2 (st.uses++ [u]).length c2))(hk:Ac [K.c] wa W')(hr:W'.heap[K.c]? =some (XS K {st with uses:=st.uses++ [u]} a2 c2)):∃T' ua' uc',CK K T' ua' uc' {st with uses:=st.uses++ [u]} W'∧Ak K T T' base W':=by
 have hcq:=h.kp0 hq;have hlt:=hcq.lt;have nf:∀b,¬T b→b∉fl:=fun b hb hm=>hb (hfl b hm)
 refine ⟨fun g=>T g∨False∨(wq.heap.size≤g∧g<wa.heap.size),a2,c2,⟨(hcq.keep.trans hka fun x hx=> .inr (hcq.dn x (hfl x hx))).trans hk (by simp;exact hK.c),hr,(hcq.fns.keep hka (nf _ hcq.ns.2.1)).keep hk (by simp [Ne.symm hK.ne.1]),(hcq.same.keep hka (nf _ hcq.ns.2.2.1)).keep hk (by simp [Ne.symm hK.ne.2.1]),(hcq.seen.keep hka (nf _ hcq.ns.2.2.2)).keep hk (by simp [Ne.symm hK.ne.2.2.1]),hown.kp Ui hk ?_,fun x hx=> ?_,fun x hx=> ?_, ?_,hcq.fn,hcq.loops⟩,(hs0.loc hq qg).trans ⟨fun x hx=> ?_,fl++ [K.c],fun x hx=> ?_, ?_⟩⟩
 ·intro x hx hx2;simp at hx;subst hx
  rcases hx2 with h1|h1|h1
  ·exact hcq.ns.1 h1
  ·exact h1
  exact Nat.not_lt_of_le h1.1 hlt.1
 ·rcases hx with h1|h1|h1
  ·exact Nat.lt_of_lt_of_le (hcq.up x h1) (Nat.le_trans hka.size hk.size)
  ·exact h1.elim
  exact Nat.lt_of_lt_of_le h1.2 hk.size
 ·rcases hx with h1|h1|h1
  ·exact hcq.dn x h1
  ·exact h1.elim
  exact Nat.le_trans hcq.keep.size h1.1
 ·exact ⟨fun h=>h.elim hcq.ns.1 fun h=>h.elim id fun h=>Nat.not_lt_of_le h.1 hlt.1,fun h=>h.elim hcq.ns.2.1 fun h=>h.elim id fun h=>Nat.not_lt_of_le h.1 hlt.2.1,fun h=>h.elim hcq.ns.2.2.1 fun h=>h.elim id fun h=>Nat.not_lt_of_le h.1 hlt.2.2.1,fun h=>h.elim hcq.ns.2.2.2 fun h=>h.elim id fun h=>Nat.not_lt_of_le h.1 hlt.2.2.2⟩
 ·rcases hx with h1|h1|h1
  ·exact .inl h1
  ·exact h1.elim
  exact .inr ⟨h1.1,Nat.lt_of_lt_of_le h1.2 hk.size⟩
 ·rcases List.mem_append.1 hx with hx|hx
  ·exact .inr (.inr (.inr (hfl x hx)))
  simp at hx;exact .inl hx
 exact (hka.weaken (fp':=fl++ [K.c]) (fun x hx=> .inl (List.mem_append_left _ hx))).trans hk qg
theorem CK.app'{K:Ba}(hK:Dp K){T0 T:Nat→Prop}{ua a2:Option Addr}{uc c2 B:Nat}{ob:Obj}{st:NS}{u:Kf}{w base W0 wq wa W':World}{fl:List Nat}(hs1:Ak K T0 T w base)(hB:base.heap[B]? =some ob)(ho:Fu K T B)(hs0:Ak K T T base W0)(h:CK K T ua uc st W0)(hq:Ac [] W0 wq)(hfl:∀x∈fl,T x)(hka:Ac fl wq wa)(hown:Ax VR 106 8 wa K.w0.heap.size (fun g=>T g∨False∨(wq.heap.size≤g∧g<wa.heap.size)) (st.uses++ [u]) (.slice a2 (st.uses++ [u]).length c2))(hk:Ac [K.c] wa W')(hr:W'.heap[K.c]? =some (XS K {st with uses:=st.uses++ [u]} a2 c2)):∃T' ua' uc',CK K T' ua' uc' {st with uses:=st.uses++ [u]} W'∧Ak K T0 T' w W'∧W'.heap[B]? =some ob∧Fu K T' B:=by
 obtain ⟨T',ua',uc',h1,h2⟩:=CK.app hK hs0 h hq hfl hka hown hk hr;exact ⟨T',ua',uc',h1,hs1.trans h2,h2.at hB ho,h2.off (Ad hB) ho⟩
theorem CK.news{K:Ba}{T:Nat→Prop}{ua:Option Addr}{uc:Nat}{st0 st:NS}{base u W:World}{fp:List Nat}(hb:CK K T ua uc st0 base)(h:CK K T ua uc st u)(hk:Ac fp u W)(hf:∀z∈fp,base.heap.size≤z):CK K T ua uc st W:=by
 have hl:=hb.lt;have ne:∀b,b<base.heap.size→b∉fp:=fun b hb hm=>Nat.not_lt_of_le (hf b hm) hb
 exact h.kp hk (fun z hz=>Nat.le_trans hb.keep.size (hf z hz)) (ne _ hl.1) (ne _ hl.2.1) (ne _ hl.2.2.1) (ne _ hl.2.2.2) (fun z hz ht=>Nat.not_lt_of_le (hf z hz) (hb.up z ht))
theorem Vo{m:List (Ae×Ae)}:∀{f:Nat} {t r:Ae},Dw m f t=some r→Cf r m=none
 |0,_,_,h=>by cases h
 | f+1,t,r,h=>by
   rw [Dw] at h
   cases ha:Cf t m with
   |none=>rw [ha] at h;simp at h;rw [←h];exact ha
   |some u=>rw [ha] at h;exact Vo (f:=f) h
theorem Ak.ms{K:Ba}{T0 T:Nat→Prop}{w W W':World}(h:Ak K T0 T w W)(hk:Ac [K.ms] W W'):Ak K T0 T w W':=
 h.trans ⟨fun _ h=> .inl h,[K.ms],by simp,hk⟩
theorem CK.unite{K:Ba}(hK:Dp K){T:Nat→Prop}{ua:Option Addr}{uc:Nat}{st:NS}{W W':World}(h:CK K T ua uc st W){t u:Ae}(hn:Cf t st.same=none){es:List (Ls Ae)}{k:Nat}(he:es.map (fun e=>(e.key,e.val))=st.same.map (fun x=>(x.1,Cn x.2)))(hk:Ac [K.ms] W W')
  (hb:W'.heap[K.ms]? =some (.map (Cm Cn (Cw t (Cn u) k es).1) (Cw t (Cn u) k es).2)):CK K T ua uc {st with same:=st.same++ [(t,u)]} W':=
 ⟨h.keep.trans hk (by simp;exact hK.ms),hk.at h.row (by simp [hK.ne.2.1]),h.fns.keep hk (by simp [hK.ne.2.2.2.1]),GX.put he hn hb,h.seen.keep hk (by simp [Ne.symm hK.ne.2.2.2.2.2]),h.uses.kp Ui hk (by simp;exact h.ns.2.2.1),fun x hx=>Nat.lt_of_lt_of_le (h.up x hx) hk.size,h.dn,h.ns,h.fn,h.loops⟩
theorem NO{K:Ba}{es:List (Ls Ae)}{k:Nat}{W:World}(hb:W.heap[K.ms]? =some (.map (Cm Cn es) k))(a b:Ae):
  (Instr.mapUpdate 66 (.map (some K.ms)) (.agg #[.int .i64 a.1,.string a.2]) (.agg #[.int .i64 b.1,.string b.2])).run Tryz.prog W= .ok () (mset W K.ms (.map (Cm Cn (Cw a (Cn b) k es).1) (Cw a (Cn b) k es).2)):=
 Qi (P:=Tryz.prog) PC Tryz.underlying66 hb a (Cn b)
def Ku(K:Ba)(rec:Cu):Prop:=∀st n st' v,rec st n=some st'→Au K.w0 (fun _=>True) n v→∀T ua uc w,CK K T ua uc st w→Calls Tryz.prog 43 #[.pointer (some ⟨K.c,0,none⟩),v] w fun r w'=>∃T' ua' uc',r= .returned (.tuple #[])∧CK K T' ua' uc' st' w'∧Ak K T T' w w'
theorem Qp(g:Ah)(st:NS)(name:ByteArray):(Iv g st name).2.uses=st.uses:=by unfold Iv;split<;>rfl
theorem IQ{K:Ba}(hK:Dp K){T:Nat→Prop}{ua:Option Addr}{uc:Nat}{st:NS}{base:World}(h:CK K T ua uc st base)(name:ByteArray):∀W,Ac [] base W→Calls Tryz.prog 75 #[.pointer (some ⟨K.c,0,none⟩),.string name] W fun r w'=>∃v,r= .returned v∧(v= .agg #[.int .i64 (Iv K.g st name).1.1,.string (Iv K.g st name).1.2]∧CK K T ua uc (Iv K.g st name).2 w'∧Ak K T T base w'):=
 fun W hk=>(FV hK (h.kp0 hk) name).mono fun _ _ ⟨h1,h2,h3⟩=>⟨_,h1,rfl,h2,((Ak.refl K T base).loc hk qg).trans h3⟩
theorem IH{K:Ba}{T:Nat→Prop}{ua:Option Addr}{uc:Nat}{st:NS}{base:World}(h:CK K T ua uc st base){t r:Ae}{fu:Nat}(hx:Dw st.same fu t=some r):∀W,Ac [] base W→Calls Tryz.prog 45 #[.pointer (some ⟨K.c,0,none⟩),.agg #[.int .i64 t.1,.string t.2]] W fun q w'=>∃v,q= .returned v∧(v= .agg #[.int .i64 r.1,.string r.2]∧Ac [] W w'):=
 fun W hk=>(El (h.kp0 hk) hx).mono fun _ _ ⟨h1,h2⟩=>⟨_,h1,rfl,h2⟩
theorem Iy{w0 W:World}(h:Ac [] w0 W){kids:List Af}{a:Option Addr}{cap:Nat}(hs:Bc w0 (fun _=>True) kids (.slice a kids.length cap)){i:Nat}(hi:i<kids.length):
  ∃g o fm na nc,a=some ⟨g,o,none⟩∧W.cell? ⟨g,o+i*5,none⟩=some (.int .i64 kids[i].kind)∧W.cell? ⟨g,o+i*5+1,none⟩=some (.string kids[i].name)∧W.cell? ⟨g,o+i*5+2,none⟩=some (.float .f64 fm)∧W.cell? ⟨g,o+i*5+3,none⟩=some (.slice na kids[i].kids.length nc)∧W.cell? ⟨g,o+i*5+4,none⟩=some (.complex .f64 kids[i].re kids[i].im)∧
   Au w0 (fun _=>True) kids[i] (.agg #[.int .i64 kids[i].kind,.string kids[i].name,.float .f64 fm,.slice na kids[i].kids.length nc,.complex .f64 kids[i].re kids[i].im])∧g<W.heap.size:=by
 have key:∃g o,a=some ⟨g,o,none⟩∧g<w0.heap.size∧Hx w0 (fun _=>True) g o kids:=by
  exact zre
 obtain ⟨g,o,rfl,hg,hr⟩:=key;obtain ⟨c0,c1,c2,c3,c4,h0,h1,h2,h3,h4,hn⟩:=hr.get hi;obtain ⟨fm,na,nc,hv,hk⟩:=hn.kids;simp only [Value.agg.injEq,Array.mk.injEq,List.cons.injEq,and_true] at hv;obtain ⟨rfl,rfl,rfl,rfl,rfl⟩:=hv
 have hc:∀j u,w0.cell? ⟨g,j,none⟩=some u→W.cell? ⟨g,j,none⟩=some u:=fun j u hj=>by
  rw [World.cell?_of_block (w:=w0) (a:=⟨g,j,none⟩) (h.block g hg qg)];exact hj
 exact ⟨g,o,fm,na,nc,rfl,hc _ _ h0,hc _ _ h1,hc _ _ h2,hc _ _ h3,hc _ _ h4,hn,Nat.lt_of_lt_of_le hg h.size⟩
def Ce(x:DX):Option Ic→DX
 |none=>x
 |some f=>Dd x f.1 f.2.1 f.2.2
abbrev Gm(kd:Int)(tx:ByteArray)(fm:Nat)(na:Option Addr)(nl nc re im:Nat):Obj:= .cells #[.int .i64 kd,.string tx,.float .f64 fm,.slice na nl nc,.complex .f64 re im] 50 (0,0)
theorem dOk{p:Prop}(h:p:=by
 refine Cq (v:= .tuple #[]) (fun W=>Ac [] wq W) Av (fun w1 hW=>by simp [results,Jo,go_sem]) rfl (fun w1 hW=>⟨rfl,HD.1.kp0 hW,KT.of0 (HK.1.trans hW qg)⟩)):p:=h
theorem VJ{p:Prop}(h:p:=by
 refine WD ?_;rintro r w8 ⟨rfl,hd,hs⟩
 go_wp2_with fail
 refine Cq (v:= .tuple #[]) (fun W=>Ac [] w8 W) Av (fun w1 hW=>by simp [results,Jo,go_sem]) rfl (fun w1 hW=>⟨rfl,hd.kp0 hW,((KT.of0 HK.1).trans hs).add hW⟩)):p:=h
theorem DV(g:Ah)(s:ByteArray):flook g s≤g.funcs.length:=by
 have:∀(l:List Az) (i:Nat),Cb s l i≤i+l.length:=by
  intro l
  induction l with
  |nil=>intro i;simp [Cb]
  |cons f l ih=>
   intro i;rw [Cb,List.length_cons]
   split
   ·omega
   have:=ih (i+1);omega
 simpa [flook] using this g.funcs 0
theorem MI{K:Br}(hK:Ff K){A:DA}{x:DX}{st:DS}{w:World}(h:DK K A x st w)(kd:Int)(hkd:kd=4∨kd=5∨kd=41∨kd=11∨kd=35)(tx:ByteArray)(fm:Nat)(na:Option Addr)(nl nc re im:Nat):Calls Tryz.prog 120 #[.pointer (some ⟨K.c,0,none⟩),.agg #[.int .i64 kd,.string tx,.float .f64 fm,.slice na nl nc,.complex .f64 re im]] w fun r w'=>r= .returned (.tuple #[])∧DK K A (if flook K.g tx>0 then Dd x 28 re im else x) st w'∧Bh w w':=by
 have HD0:=zh h;have HF:=zh (fun W (hk:Ac [] w W)=>Hh hK (h.kp0 hk) tx);have hfl:(flook K.g tx:Int)≤1000000:=by have:=DV K.g tx;have:=hK.small;omega
 generalize flook K.g tx=fl at*
 clear h
 rcases Nat.eq_zero_or_pos fl with hq|hq
 subst hq;rw [if_neg jh]
 rotate_left
 rw [if_pos hq];obtain ⟨m,rfl⟩:∃m,fl=m+1:=⟨fl -1,by omega⟩;clear hq
 all_goals
  rcases hkd with rfl|rfl|rfl|rfl|rfl
  all_goals
   go_enter Tryz.func120,Tryz.ntmps120
   go_wp2_with fail
   refine An (fun W=>Ac [] w W∧W.heap[w.heap.size]? =some (Gm _ tx fm na nl nc re im)) ⟨Av,Nv⟩ ?_;rintro w1 ⟨hk1,hb1⟩;have HB1:=zh hb1;have HK1:=zh hk1;clear hk1 hb1;refine (HF.1 _ HK1.1).mono ?_;rintro r wq ⟨rfl,hk⟩;have HB:=zh (hk.at HB1.1 qg);have HK:=zh (HK1.1.trans hk qg);have HD:=zh (HD0.1.kp0 HK.1);clear hk HB1 HK1;obtain ⟨l_B,x0,x1,x2,x3,x4,z0,z1,z2,z3,z4⟩:=Bv HB.1
   go_wp2_with fail
   first|exact VJ|exact dOk
theorem Aba{p:Prop}(h:p:=by
 refine Cq (v:= .tuple #[]) (fun W=>Ac [] wz W) Av (fun w1 hW=>by simp [results,Jo,go_sem]) rfl (fun w1 hW=>⟨rfl,HD.1.kp0 hW,KT.of0 (HK.1.trans hW qg)⟩)):p:=h
theorem ML{K:Br}(hK:Ff K){A:DA}{x:DX}{st:DS}{w:World}(h:DK K A x st w)(tx:ByteArray)(fm:Nat)(na:Option Addr)(nl nc re im:Nat)(hnl:nl≤1000000):Calls Tryz.prog 120 #[.pointer (some ⟨K.c,0,none⟩),.agg #[.int .i64 19,.string tx,.float .f64 fm,.slice na nl nc,.complex .f64 re im]] w fun r w'=>r= .returned (.tuple #[])∧DK K A (if flook K.g tx=0 then Dd x 28 re im else if (Bk K.g (flook K.g tx)).length<nl then Dd x 31 re im else x) st w'∧Bh w w':=by
 have HD0:=zh h;have HF:=zh (fun W (hk:Ac [] w W)=>Hh hK (h.kp0 hk) tx);have hfl:=DV K.g tx;have hsm:=hK.small;generalize flook K.g tx=fl at*
 clear h
 rcases Nat.eq_zero_or_pos fl with hq|hq
 ·subst hq;rw [if_pos rfl];clear hfl
  go_enter Tryz.func120,Tryz.ntmps120
  go_wp2_with fail
  refine An (fun W=>Ac [] w W∧W.heap[w.heap.size]? =some (Gm 19 tx fm na nl nc re im)) ⟨Av,Nv⟩ ?_;rintro w1 ⟨hk1,hb1⟩;have HB1:=zh hb1;have HK1:=zh hk1;clear hk1 hb1;refine (HF.1 _ HK1.1).mono ?_;rintro r wq ⟨rfl,hk⟩;have HB:=zh (hk.at HB1.1 qg);have HK:=zh (HK1.1.trans hk qg);have HD:=zh (HD0.1.kp0 HK.1);clear hk HB1 HK1;obtain ⟨l_B,x0,x1,x2,x3,x4,z0,z1,z2,z3,z4⟩:=Bv HB.1
  go_wp2_with fail
  refine WD ?_;rintro r w8 ⟨rfl,hd,hs⟩
  go_wp2_with fail
  refine Ap (v:= .tuple #[]) (fun W=>Ac [] w8 W) Av (fun w1 hW=>by simp [results,Jo,go_sem]) rfl (fun w1 hW=>⟨rfl,hd.kp0 hW,((KT.of0 HK.1).trans hs).add hW⟩)
 obtain ⟨m,rfl⟩:∃m,fl=m+1:=⟨fl -1,by omega⟩;rw [if_neg jh];have hml:m<K.g.funcs.length:=by omega
 have hp:Bk K.g (m+1)=K.g.funcs[m].params:=by simp [Bk,hml]
 rw [hp];have hps:=hK.psmall _ (List.getElem_mem hml);obtain ⟨g2,o2,pa,pc,b0,b1,b2,b3,b4,hfa,-⟩:=HD0.1.func hK hml;clear hq hfl hp
 by_cases hlt:K.g.funcs[m].params.length<nl
 rw [if_pos hlt]
 rotate_left
 rw [if_neg hlt]
 all_goals
  have hlb:decide ((K.g.funcs[m].params.length:Int)<(nl:Int))=decide (K.g.funcs[m].params.length<nl):=by simp
  first|rw [decide_eq_true hlt] at hlb|rw [decide_eq_false hlt] at hlb
  go_enter Tryz.func120,Tryz.ntmps120
  go_wp2_with fail
  refine An (fun W=>Ac [] w W∧W.heap[w.heap.size]? =some (Gm 19 tx fm na nl nc re im)) ⟨Av,Nv⟩ ?_;rintro w1 ⟨hk1,hb1⟩;have HB1:=zh hb1;have HK1:=zh hk1;clear hk1 hb1;refine (HF.1 _ HK1.1).mono ?_;rintro r wq ⟨rfl,hk⟩;have HB:=zh (hk.at HB1.1 qg);have HK:=zh (HK1.1.trans hk qg);have HD:=zh (HD0.1.kp0 HK.1);clear hk HB1 HK1;obtain ⟨l_B,x0,x1,x2,x3,x4,z0,z1,z2,z3,z4⟩:=Bv HB.1;obtain ⟨l_c,c0,c1,c2,c3,c4,c5,c6,c7,c8,c9,y0,y1,y2,y3,y4,y5,y6,y7,y8,y9⟩:=Ke HD.1.row;obtain ⟨g3,o3,pa',pc',b0',b1',b2',b3',b4',hfa',-,d1,-,-,-,-,-,-,-,-,l2⟩:=HD.1.func hK hml;rw [hfa] at hfa' c1
  cases hfa'
  clear c0 c2 c3 c4 c5 c6 c7 c8 c9 y0 y2 y3 y4 y5 y6 y7 y8 y9;have hmm:(m:Int)<(K.g.funcs.length:Int):=by omega
  go_upto_region 13 with fail
  go_quiet (fail)
  have HKq:=zh (Ac.drewN [] wq nq);generalize wq.drewN nq=wz at*
  have HK':=zh (HK.1.trans HKq.1 qg);have HD':=zh (HD.1.kp0 HKq.1);have HB':=zh (HKq.1.at HB.1 qg);clear l_B x0 x1 x2 x3 x4 z0 z1 z2 z3 z4 c1 y1 d1 l2 l_c HKq;obtain ⟨l_B,x0,x1,x2,x3,x4,z0,z1,z2,z3,z4⟩:=Bv HB'.1;have HD:=HD';have HK:=HK'
  go_wp2_with fail
  first
  |exact VJ
  |(replace HK:=HK';exact Aba)
theorem VI{p:Prop}(h:p:=by
 go_enter Tryz.func120,Tryz.ntmps120
 go_wp2_with fail
 refine An (fun W=>Ac [] w W∧W.heap[w.heap.size]? =some (Gm 20 _ fm na _ nc re im)) ⟨Av,Nv⟩ ?_;rintro wq ⟨hk1,hb1⟩;have HB:=zh hb1;have HK:=zh hk1;have HD:=zh (HD0.1.kp0 hk1);clear hk1 hb1;refine (Pd _ _ hkl wq).mono ?_;rintro r w' ⟨rfl,hw'⟩;rw [hw',hcb];clear hw' w';obtain ⟨l_B,x0,x1,x2,x3,x4,z0,z1,z2,z3,z4⟩:=Bv HB.1
 go_wp2_with fail
 first
 |exact dOk
 | (refine (Zk hK HD.1 _ _ _).mono ?_
    rintro r w8 ⟨rfl,hd,hs⟩
    go_wp2_with fail
    refine Ap (v:= .tuple #[]) (fun W=>Ac [] w8 W) Av (fun w1 hW=>by simp [results,Jo,go_sem]) rfl (fun w1 hW=>⟨rfl,hd.kp0 hW,((KT.of0 HK.1).trans hs).add hW⟩))):p:=h
theorem EJ{K:Br}(hK:Ff K){A:DA}{x:DX}{st:DS}{w:World}(h:DK K A x st w)(tx:ByteArray)(fm:Nat)(na:Option Addr)(kl nc re im:Nat)(hkl:kl≤1000000)(hcb:Ha tx kl=false):Calls Tryz.prog 120 #[.pointer (some ⟨K.c,0,none⟩),.agg #[.int .i64 20,.string tx,.float .f64 fm,.slice na kl nc,.complex .f64 re im]] w fun r w'=>r= .returned (.tuple #[])∧DK K A (Dd x 31 re im) st w'∧Bh w w':=by
 have HD0:=zh h;clear h;exact VI
theorem EI{K:Br}(hK:Ff K){A:DA}{x:DX}{st:DS}{w:World}(h:DK K A x st w)(tx:ByteArray)(fm:Nat)(na:Option Addr)(kl nc re im:Nat)(hkl:kl≤1000000)(hcb:Ha tx kl=true)(h1:(tx.toList== [115,117,98])=false)(h2:(tx.toList== [103,115,117,98])=false):Calls Tryz.prog 120 #[.pointer (some ⟨K.c,0,none⟩),.agg #[.int .i64 20,.string tx,.float .f64 fm,.slice na kl nc,.complex .f64 re im]] w fun r w'=>r= .returned (.tuple #[])∧DK K A x st w'∧Bh w w':=by
 have HD0:=zh h;clear h;exact VI
theorem EH{K:Br}(hK:Ff K){A:DA}{x:DX}{st:DS}{w:World}(h:DK K A x st w)(tx:ByteArray)(ht:tx=⟨#[115,117,98]⟩∨tx=⟨#[103,115,117,98]⟩)(fm:Nat)(na:Option Addr)(kl nc re im:Nat)(hkl:kl≤1000000)(hcb:Ha tx kl=true)(h1:((kl:Int)==3)=false):Calls Tryz.prog 120 #[.pointer (some ⟨K.c,0,none⟩),.agg #[.int .i64 20,.string tx,.float .f64 fm,.slice na kl nc,.complex .f64 re im]] w fun r w'=>r= .returned (.tuple #[])∧DK K A x st w'∧Bh w w':=by
 have HD0:=zh h;clear h
 rcases ht with rfl|rfl
 ·exact VI
 exact VI
theorem EG{K:Br}(hK:Ff K){A:DA}{x:DX}{st:DS}{w:World}(h:DK K A x st w)(tx:ByteArray)(ht:tx=⟨#[115,117,98]⟩∨tx=⟨#[103,115,117,98]⟩)(fm:Nat)(na:Option Addr)(nc re im:Nat)(a b k:Af)(hkd:Bc K.w0 (fun _=>True) [a,b,k] (.slice na 3 nc)):Calls Tryz.prog 120 #[.pointer (some ⟨K.c,0,none⟩),.agg #[.int .i64 20,.string tx,.float .f64 fm,.slice na 3 nc,.complex .f64 re im]] w fun r w'=>r= .returned (.tuple #[])∧DK K A (if Hn k=false then Dd x 31 k.re k.im else x) st w'∧Bh w w':=by
 have HD0:=zh h;have hcb:Ha tx 3=true:=by rcases ht with rfl|rfl<;>rfl
 have HKD:=zh hkd;obtain ⟨g0,o0,-,-,-,hna,-⟩:=Iy h.keep (kids:= [a,b,k]) hkd (i:=2) qg;subst hna;clear h hkd
 rcases ht with rfl|rfl
 all_goals
  cases hlv:Hn k
  rw [if_pos rfl]
  rotate_left
  rw [if_neg qg]
  all_goals
   go_enter Tryz.func120,Tryz.ntmps120
   go_wp2_with fail
   refine An (fun W=>Ac [] w W∧W.heap[w.heap.size]? =some (Gm 20 _ fm _ 3 nc re im)) ⟨Av,Nv⟩ ?_;rintro wp ⟨hk1,hb1⟩;have HB1:=zh hb1;have HK1:=zh hk1;clear hk1 hb1;refine (Pd _ 3 jh wp).mono ?_;rintro r w' ⟨rfl,hw'⟩;rw [hw',hcb];clear hw' w';obtain ⟨g3,o3,fm3,na3,nc3,hna3,d0,d1,d2,d3,d4,hn,l2⟩:=Iy (HD0.1.kp0 HK1.1).keep (kids:= [a,b,k]) HKD.1 (i:=2) qg
   cases hna3
   simp only [List.getElem_cons_succ,List.getElem_cons_zero] at d0 d1 d2 d3 d4 hn;have HN:=zh hn;clear hn;obtain ⟨l_B,x0,x1,x2,x3,x4,z0,z1,z2,z3,z4⟩:=Bv HB1.1
   go_wp2_with fail
   refine (Js (HN.1.keep0 (HD0.1.kp0 HK1.1).keep)).mono ?_;rintro r wq ⟨rfl,hk⟩;have HB:=zh (hk.at HB1.1 qg);have HK:=zh (HK1.1.trans hk qg);have HD:=zh (HD0.1.kp0 HK.1);clear hk l_B x0 x1 x2 x3 x4 z0 z1 z2 z3 z4 d0 d1 d2 d3 d4 l2;obtain ⟨l_B,x0,x1,x2,x3,x4,z0,z1,z2,z3,z4⟩:=Bv HB.1;obtain ⟨g3,o3,fm3,na3,nc3,hna3,d0,d1,d2,d3,d4,hn,l2⟩:=Iy HD.1.keep (kids:= [a,b,k]) HKD.1 (i:=2) qg
   cases hna3
   simp only [List.getElem_cons_succ,List.getElem_cons_zero] at d0 d1 d2 d3 d4;rw [hlv]
   go_wp2_with fail
   first|exact VJ|exact dOk
theorem Yd{p:Prop}(h:p:=by
 go_enter Tryz.func120,Tryz.ntmps120
 obtain ⟨l_c,c0,c1,c2,c3,c4,c5,c6,c7,c8,c9,y0,y1,y2,y3,y4,y5,y6,y7,y8,y9⟩:=Ke HD0.1.row;clear c0 c1 c2 c3 c4 c5 c6 y0 y1 y2 y3 y4 y5 y6
 go_wp2_with fail
 first
 | (refine An (fun W=>Ac [] w W) Av ?_
    rintro wq hk1;have HK:=zh hk1;have HD:=zh (HD0.1.kp0 hk1);exact VJ)
 |(refine Cq (v:= .tuple #[]) (fun W=>Ac [] w W) Av (fun w1 hW=>by simp [results,Jo,go_sem]) rfl (fun w1 hW=>⟨rfl,HD0.1.kp0 hW,KT.of0 hW⟩))):p:=h
theorem MH{K:Br}(hK:Ff K){A:DA}{x:DX}{st:DS}{w:World}(h:DK K A x st w){fn:Nat}(hfn:x.fn=(fn:Int) -1)(hk7:x.kind≤7)(tx:ByteArray)(fm:Nat)(na:Option Addr)(nl nc re im:Nat):Calls Tryz.prog 120 #[.pointer (some ⟨K.c,0,none⟩),.agg #[.int .i64 38,.string tx,.float .f64 fm,.slice na nl nc,.complex .f64 re im]] w fun r w'=>r= .returned (.tuple #[])∧DK K A (if fn>0∨(x.kind≠5∧x.kind≠6∧x.kind≠7) then Dd x 32 re im else x) st w'∧Bh w w':=by
 have HD0:=zh h;clear h
 by_cases h0:fn>0
 ·rw [if_pos (.inl h0)];have hfb:decide (0≤x.fn)=true:=by simp;omega
  have hfp:0≤x.fn:=by omega
  clear h0 hfn hk7;exact Yd
 have hfb:decide (0≤x.fn)=false:=by simp;omega
 have hfp:¬0≤x.fn:=by omega
 by_cases h5:x.kind<5
 ·rw [if_pos (.inr ⟨by omega,by omega,by omega⟩)];have hkb:decide (x.kind<5)=true:=by simp [h5]
  clear h0 hfn hk7;exact Yd
 rw [if_neg (by rintro (q|q);exact h0 q;omega)];have hkb:decide (x.kind<5)=false:=decide_eq_false h5;clear h0 hfn hk7;exact Yd
theorem EF{K:Br}(hK:Ff K){A:DA}{x:DX}{st:DS}{w:World}(h:DK K A x st w){fn:Nat}(hfn:x.fn=(fn:Int) -1)(tx:ByteArray)(fm:Nat)(na:Option Addr)(nl nc re im:Nat):Calls Tryz.prog 120 #[.pointer (some ⟨K.c,0,none⟩),.agg #[.int .i64 40,.string tx,.float .f64 fm,.slice na nl nc,.complex .f64 re im]] w fun r w'=>r= .returned (.tuple #[])∧DK K A (if fn=0 then Dd x 32 re im else x) st w'∧Bh w w':=by
 have HD0:=zh h;clear h
 by_cases h0:fn=0
 ·rw [if_pos h0];have hfb:decide (x.fn<0)=true:=by simp;omega
  have hfp:x.fn<0:=by omega
  clear h0 hfn;exact Yd
 rw [if_neg h0];have hfb:decide (x.fn<0)=false:=by simp;omega
 have hfp:¬x.fn<0:=by omega
 clear h0 hfn;exact Yd
theorem GP{K:Br}(hK:Ff K){A:DA}{x:DX}{st:DS}{w:World}(h:DK K A x st w)(kd:Int)(hkd:kd=36∨kd=37)(tx:ByteArray)(fm:Nat)(na:Option Addr)(nl nc re im:Nat):Calls Tryz.prog 120 #[.pointer (some ⟨K.c,0,none⟩),.agg #[.int .i64 kd,.string tx,.float .f64 fm,.slice na nl nc,.complex .f64 re im]] w fun r w'=>r= .returned (.tuple #[])∧DK K A (if x.loops=0 then Dd x 32 re im else x) st w'∧Bh w w':=by
 have HD0:=zh h;clear h
 by_cases h0:x.loops=0
 ·rw [if_pos h0];have hfb:(x.loops==0)=true:=by simp [h0]
  clear h0
  rcases hkd with rfl|rfl
  ·exact Yd
  exact Yd
 rw [if_neg h0];have hfb:(x.loops==0)=false:=by simp [h0]
 clear h0
 rcases hkd with rfl|rfl
 ·exact Yd
 exact Yd
theorem MJ{K:Br}(hK:Ff K){A:DA}{x:DX}{st:DS}{w:World}(h:DK K A x st w)(kd:Int)(e4:(kd==4)=false)(e5:(kd==5)=false)(e41:(kd==41)=false)(e11:(kd==11)=false)(e35:(kd==35)=false)(e19:(kd==19)=false)(e20:(kd==20)=false)(e38:(kd==38)=false)(e40:(kd==40)=false)(e36:(kd==36)=false)(e37:(kd==37)=false)(tx:ByteArray)(fm:Nat)(na:Option Addr)(nl nc re im:Nat):Calls Tryz.prog 120 #[.pointer (some ⟨K.c,0,none⟩),.agg #[.int .i64 kd,.string tx,.float .f64 fm,.slice na nl nc,.complex .f64 re im]] w fun r w'=>r= .returned (.tuple #[])∧DK K A x st w'∧Bh w w':=by
 have HD0:=zh h;clear h;exact Yd
theorem QV{K:Br}(hK:Ff K){A:DA}{x:DX}{st:DS}{w:World}(h:DK K A x st w){fn:Nat}(hfn:x.fn=(fn:Int) -1)(hk7:x.kind≤7)(kd:Int)(tx:ByteArray)(fm:Nat)(na:Option Addr)(nc re im:Nat)(kids:List Af)(hkl:kids.length≤1000000)(hkd:Bc K.w0 (fun _=>True) kids (.slice na kids.length nc)):Calls Tryz.prog 120 #[.pointer (some ⟨K.c,0,none⟩),.agg #[.int .i64 kd,.string tx,.float .f64 fm,.slice na kids.length nc,.complex .f64 re im]] w fun r w'=>r= .returned (.tuple #[])∧DK K A (Ce x (Iq K.g fn x.kind x.loops kd tx kids re im)) st w'∧Bh w w':=by
 have ite:∀(c:Prop) [Decidable c] (e:Int) (re im:Nat),Ce x (if c then some (e,re,im) else none)=if c then Dd x e re im else x:=fun c _ e re im=>by split<;>rfl
 by_cases hn:Me kd=true
 ·have:Iq K.g fn x.kind x.loops kd tx kids re im=if flook K.g tx>0 then some (28,re,im) else none:=by rw [Iq,if_pos hn]
  rw [this,ite];exact MI hK h kd (by simp [Me] at hn;omega) tx fm na _ nc re im
 have hn':kd≠4∧kd≠5∧kd≠11∧kd≠41∧kd≠35:=by simp [Me] at hn;omega
 unfold Iq;rw [if_neg hn]
 by_cases h19:kd=19
 ·subst h19;rw [if_pos rfl];have:∀c d:Prop,[Decidable c]→ [Decidable d]→Ce x (if c then some (28,re,im) else if d then some (31,re,im) else none)=if c then Dd x 28 re im else if d then Dd x 31 re im else x:=fun c d _ _=>by split;rfl;split<;>rfl
  rw [this];exact ML hK h tx fm na _ nc re im hkl
 rw [if_neg h19]
 by_cases h20:kd=20
 ·subst h20;rw [if_pos rfl]
  by_cases hc:kids.length<(Bz tx).1∨(Bz tx).2<kids.length
  ·rw [if_pos hc];exact EJ hK h tx fm na _ nc re im hkl (by simp [Ha];omega)
  rw [if_neg hc];have hcb:Ha tx kids.length=true:=by simp [Ha];omega
  by_cases hs:tx=⟨#[115,117,98]⟩∨tx=⟨#[103,115,117,98]⟩
  ·by_cases h3:kids.length=3
   ·match kids,h3 with
    | [a,b,k],_=>
     have:Qe tx [a,b,k]=if Hn k=false then some (31,k.re,k.im) else none:=by
      have hs':tx=CZ∨tx=To:=hs;simp [Qe,hs']
     rw [this,ite];exact EG hK h tx hs fm na nc re im a b k hkd
   have:Qe tx kids=none:=by
    match kids,h3 with
    | [],_=>rfl
    | [_],_=>rfl
    | [_,_],_=>rfl
    | [_,_,_],h3=>exact absurd rfl h3
    |_::_::_::_::_,_=>rfl
   rw [this];exact EH hK h tx hs fm na _ nc re im hkl hcb (beq_false_of_ne jh)
  have:Qe tx kids=none:=by
   have hs':¬(tx=CZ∨tx=To):=hs
   match kids with
   | []=>rfl
   | [_]=>rfl
   | [_,_]=>rfl
   | [_,_,_]=>simp [Qe,hs']
   |_::_::_::_::_=>rfl
  rw [this]
  have hb:∀l:List UInt8,tx≠⟨l.toArray⟩→(tx.toList==l)=false:=fun l hl=>by
   rw [ByteArray.toList_eq];exact beq_false_of_ne fun e=>hl (by cases tx;simp at e;subst e;simp)
  exact EI hK h tx fm na _ nc re im hkl hcb (hb _ fun e=>hs (.inl e)) (hb _ fun e=>hs (.inr e))
 rw [if_neg h20]
 by_cases h38:kd=38
 ·subst h38;rw [if_pos rfl,ite];exact MH hK h hfn hk7 tx fm na _ nc re im
 rw [if_neg h38]
 by_cases h40:kd=40
 ·subst h40;rw [if_pos rfl,ite];exact EF hK h hfn tx fm na _ nc re im
 rw [if_neg h40]
 by_cases h36:kd=36∨kd=37
 ·rw [if_pos h36,ite];exact GP hK h kd h36 tx fm na _ nc re im
 rw [if_neg h36];exact MJ hK h kd (beq_false_of_ne hn'.1) (beq_false_of_ne hn'.2.1) (beq_false_of_ne hn'.2.2.2.1) (beq_false_of_ne hn'.2.2.1) (beq_false_of_ne hn'.2.2.2.2) (beq_false_of_ne h19) (beq_false_of_ne h20) (beq_false_of_ne h38) (beq_false_of_ne h40) (beq_false_of_ne fun e=>h36 (.inl e)) (beq_false_of_ne fun e=>h36 (.inr e)) tx fm na _ nc re im
end Go.Proofs.YtkfillfkbhbbjaaGreatDoor
