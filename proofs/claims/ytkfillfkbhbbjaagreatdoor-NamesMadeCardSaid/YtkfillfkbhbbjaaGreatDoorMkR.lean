/- DX8, MkR. -/
import Derived.Test.YtkfillfkbhbbjaaGreatDoorDX7
import Derived.Test.YtkfillfkbhbbjaaGreatDoorKnw
import Derived.Test.YtkfillfkbhbbjaaGreatDoorNamA
set_option maxRecDepth 100000
set_option maxHeartbeats 4000000
set_option linter.unusedSimpArgs false
set_option linter.unusedVariables false
namespace Go.Proofs.YtkfillfkbhbbjaaGreatDoor
open Go.RowKit
theorem FB{fu:Nat}{g:Ah}{t:Ox}{w:World}{S:Nat→Prop}{v:Value}(hv:Iu w S g v)(hx:Kv fu g=some t){m1 m2 m3:Nat}(h1:m1=t.info.scalars.length)(h2:m2=t.info.arrays.length)(h3:m3=t.info.params.length):Calls Tryz.prog 9 #[v] w fun r w'=>∃sa sc aa ac pa pc,r= .returned (.tuple #[.agg #[.slice sa m1 sc,.slice aa m2 ac,.slice pa m3 pc],.complex .f64 t.re t.im,.int .i64 t.e])∧Aq Ef w' (fun _=>True) t.info.scalars (.slice sa m1 sc)∧Aq Ef w' (fun _=>True) t.info.arrays (.slice aa m2 ac)∧Aq Hl w' (fun _=>True) t.info.params (.slice pa m3 pc)∧Ac [] w w':=by
 subst h1;subst h2;subst h3;exact jed
theorem GI{g:Ah}{t:Ox}{w:World}{S:Nat→Prop}{v:Value}(hv:Iu w S g v)(hwf:WH g)(hk7:∀r∈g.rules,r.kind≤7)(hx:Ns g=some t){m1 m2 m3:Nat}(h1:m1=t.info.scalars.length)(h2:m2=t.info.arrays.length)(h3:m3=t.info.params.length):Calls Tryz.prog 28 #[v] w fun r w'=>∃sa sc aa ac pa pc,r= .returned (.tuple #[.agg #[.slice sa m1 sc,.slice aa m2 ac,.slice pa m3 pc],.complex .f64 t.re t.im,.int .i64 t.e])∧Aq Ef w' (fun _=>True) t.info.scalars (.slice sa m1 sc)∧Aq Ef w' (fun _=>True) t.info.arrays (.slice aa m2 ac)∧Aq Hl w' (fun _=>True) t.info.params (.slice pa m3 pc)∧Ac [] w w':=by
 subst h1;subst h2;subst h3;exact (GJ hv hwf hk7 hx).mono fun r w' ⟨iv,h1,⟨sa,sc,aa,ac,pa,pc,h2,h3,h4,h5⟩,h6⟩=>⟨sa,sc,aa,ac,pa,pc,by rw [h1,h2],h3,h4,h5,h6⟩
theorem Rw:∀l:List ByteArray,Mv l l=true
 | []=>rfl
 | a::l=>by
   unfold Mv;rw [if_pos (Cv.2 rfl)];exact Rw l
/-! ### lengths -/
theorem Xi{st:DS}{k:List Int}:∀{l:List Ea} {i:Nat} {sc ar:List ByteArray} {fin:List ByteArray×List ByteArray},Gk st k i l sc ar=some fin→fin.1.length≤sc.length+l.length∧fin.2.length≤ar.length+l.length
 | [],i,sc,ar,fin,h=>by rw [Gk] at h;cases h;exact ⟨Nat.le_refl _,Nat.le_refl _⟩
 | x::l,i,sc,ar,fin,h=>by
   have hi:∀m,(Ep x.t.2 m).length=m.length+1:=fun m=>by have:=(Ht x.t.2 m).length_eq;simpa using this
   rcases Ua h with ⟨-,h1⟩|⟨-,r,v,-,-,⟨-,h1⟩|⟨-,-,h1⟩|⟨-,-,h1⟩⟩
   all_goals
    have h2:=Xi h1;simp only [hi,List.length_cons] at h2⊢
    omega
theorem Zo{st:DS}{k:List Int}{i:Nat}:∀{l:List ByteArray} {xs:List Bool},Mm st k i l=some xs→xs.length=l.length
 | [],xs,h=>by rw [Mm] at h;cases h;rfl
 | s::l,xs,h=>by
   obtain ⟨j,r,v,m,-,-,-,h4,h5⟩:=Xf h;rw [h5,List.length_cons,List.length_cons,Zo h4]
theorem Xg{st:DS}{k:List Int}:∀{l:List Az} {i:Nat} {xs:List (List Bool)},Ka st k i l=some xs→xs.length=l.length∧∀x∈xs,x.length≤Ij l
 | [],i,xs,h=>by rw [Ka] at h;cases h;exact ⟨rfl,by simp⟩
 | f::l,i,xs,h=>by
   obtain ⟨x,m,h1,h2,h3⟩:=Tz h;have h4:=Xg h2;have h5:=Zo h1;refine ⟨by rw [h3,List.length_cons,List.length_cons,h4.1],fun y hy=> ?_⟩;rw [Ij];rw [h3] at hy
   rcases List.mem_cons.1 hy with rfl|hy
   ·omega
   have:=h4.2 y hy;omega
theorem GK{g:Ah}{t:Ox}(h:Ns g=some t):t.info.scalars.length≤1000000∧t.info.arrays.length≤1000000∧t.info.params.length≤g.funcs.length∧∀x∈t.info.params,x.length≤Ij g.funcs:=by
 have hf:∀f:Ic,some (fT f)=some t→t.info.scalars.length≤1000000∧t.info.arrays.length≤1000000∧t.info.params.length≤g.funcs.length∧∀x∈t.info.params,x.length≤Ij g.funcs:=fun f h=>by
  cases h;exact ⟨Nat.zero_le _,Nat.zero_le _,Nat.zero_le _,fun x hx=>by cases hx⟩
 unfold Ns at h
 split at h
 ·exact hf _ h
 split at h
 ·exact hf _ h
 rw [Option.bind_eq_some_iff] at h;obtain ⟨st,h1,h2⟩:=h;have hI:=DI.evs (st:=MT) ⟨by decide,by decide,by decide⟩ h1;unfold Xe at h2;rw [Option.bind_eq_some_iff] at h2;obtain ⟨kf,-,h2⟩:=h2;rw [Option.bind_eq_some_iff] at h2;obtain ⟨bad,-,h2⟩:=h2
 cases bad with
 |some f=>exact hf _ h2
 |none=>
  have h3:(Xj st kf g).map (fun i=>(⟨i,0,0,0⟩:Ox))=some t:=h2;rw [Option.map_eq_some_iff] at h3;obtain ⟨i,hi,rfl⟩:=h3;unfold Xj at hi;rw [Option.bind_eq_some_iff] at hi;obtain ⟨fin,hn,hi⟩:=hi;rw [Option.map_eq_some_iff] at hi;obtain ⟨ps,hp,rfl⟩:=hi;have h4:=Xi hn;have h5:=Xg hp;have h6:=hI.1;exact ⟨by have:=h4.1;simp at this;show fin.1.length≤_;omega,by have:=h4.2;simp at this;show fin.2.length≤_;omega,Nat.le_of_eq h5.1,h5.2⟩
/-! ### rows of flags, read -/
theorem On{W:World}{ps:List (List Bool)}{a:Option Addr}{n c:Nat}(h:Aq Hl W (fun _=>True) ps (.slice a n c)){k:Nat}(hk:k<ps.length):∃g o b d,a=some ⟨g,o,none⟩∧g<W.heap.size∧W.cell? ⟨g,o+k,none⟩=some (.slice b ps[k].length d)∧Aq Rr W (fun _=>True) ps[k] (.slice b ps[k].length d)∧n≤c:=by
 have hc:=h;obtain ⟨g,o,cap,x,hv,-,hg,⟨b,d,rfl,hb⟩,hx⟩:=h.get Bx hk;injection hv with h1 h2 h3
 obtain ⟨a',c',e1,e2,-⟩:=hc;injection e1 with e3 e4 e5
 exact ⟨g,o,b,d,h1,hg,by simpa using hx 0 _ rfl,hb,by omega⟩
theorem JE{W:World}{l:List Bool}{a:Option Addr}{n c:Nat}(h:Aq Rr W (fun _=>True) l (.slice a n c)){k:Nat}(hk:k<l.length):∃g o,a=some ⟨g,o,none⟩∧g<W.heap.size∧W.cell? ⟨g,o+k,none⟩=some (.bool l[k]):=by
 obtain ⟨g,o,cap,x,hv,-,hg,rfl,hx⟩:=h.get Xm hk;injection hv with h1 h2 h3
 exact ⟨g,o,h1,hg,by simpa using hx 0 _ rfl⟩
def SaI(n:Nat)(w:World)(g:Nat)(j:Value)(W:World):Prop:=∃k:Nat,j= .int .i64 k∧k≤n∧g=n+1 -k∧Ac [] w W
theorem NN{g:Ah}{w:World}{S:Nat→Prop}{v:Value}(hv:Iu w S g v)(hwf:WH g)(hk7:∀r∈g.rules,r.kind≤7)(hz:(Ek g).re=0∧(Ek g).im=0):Calls Tryz.prog 13 #[v] w fun r w'=>r= .returned (.bool true)∧Ac [] w w':=by
 have HV:=zh hv;obtain ⟨ra,rc,fa,fc,rfl,-,-⟩:=hv;have hln:=GK (Nr hwf);have hpl:∀x∈(Ek g).info.params,x.length≤400000:=fun x hx=>by have:=hln.2.2.2 x hx;have:=hwf.size;omega
 have hfl:(Ek g).info.params.length≤400000:=by have:=hln.2.2.1;have:=Oj g.funcs;have:=hwf.size;omega
 obtain ⟨m1,hm1⟩:∃m,m=(Ek g).info.scalars.length:=⟨_,rfl⟩;obtain ⟨m2,hm2⟩:∃m,m=(Ek g).info.arrays.length:=⟨_,rfl⟩;obtain ⟨m3,hm3⟩:∃m,m=(Ek g).info.params.length:=⟨_,rfl⟩;obtain ⟨e1,he1⟩:∃m,m=(Ek g).e:=⟨_,rfl⟩
 have HCW:Hd (∀{W:World} {S:Nat→Prop} {v:Value},Iu W S g v→Calls Tryz.prog 9 #[v] W fun r w'=>∃sa sc aa ac pa pc,r= .returned (.tuple #[.agg #[.slice sa m1 sc,.slice aa m2 ac,.slice pa m3 pc],.complex .f64 0 0,.int .i64 e1])∧Aq Ef w' (fun _=>True) (Ek g).info.scalars (.slice sa m1 sc)∧Aq Ef w' (fun _=>True) (Ek g).info.arrays (.slice aa m2 ac)∧Aq Hl w' (fun _=>True) (Ek g).info.params (.slice pa m3 pc)∧Ac [] W w'):=
  zh fun h=>by have:=FB (fu:=200000) h (BY hwf (Nat.le_refl _)) hm1 hm2 hm3;rwa [hz.1,hz.2,←he1] at this
 have HCD:Hd (∀{W:World} {S:Nat→Prop} {v:Value},Iu W S g v→Calls Tryz.prog 28 #[v] W fun r w'=>∃sa sc aa ac pa pc,r= .returned (.tuple #[.agg #[.slice sa m1 sc,.slice aa m2 ac,.slice pa m3 pc],.complex .f64 0 0,.int .i64 e1])∧Aq Ef w' (fun _=>True) (Ek g).info.scalars (.slice sa m1 sc)∧Aq Ef w' (fun _=>True) (Ek g).info.arrays (.slice aa m2 ac)∧Aq Hl w' (fun _=>True) (Ek g).info.params (.slice pa m3 pc)∧Ac [] W w'):=
  zh fun h=>by have:=GI h hwf hk7 (Nr hwf) hm1 hm2 hm3;rwa [hz.1,hz.2,←he1] at this
 have hl1:=hln.1;have hl2:=hln.2.1;generalize (Ek g).info.scalars=ls at*
 generalize (Ek g).info.arrays=la at*
 generalize (Ek g).info.params=lp at*
 have HM1:=zh hm1;have HM2:=zh hm2;have HM3:=zh hm3;have HPL:=zh hpl;have HL1:=zh hl1;have HL2:=zh hl2;have hm3b:m3≤400000:=by rw [hm3];exact hfl
 clear hwf hk7 hz hln hm1 hm2 hm3 he1 hpl hl1 hl2 hfl
 go_enter Tryz.func13,Tryz.ntmps13
 go_wp2_with fail
 refine An (fun V=>Ac [] w V∧V.heap[w.heap.size]? =some (.cells #[.slice ra g.rules.length rc,.slice fa g.funcs.length fc] 33 (0,0))) ⟨Av,Nv⟩ ?_;rintro w1 ⟨hk,hr1⟩;obtain ⟨G,hG⟩:∃x,x=w.heap.size:=⟨_,rfl⟩;rw [←hG] at hr1⊢;have HG:=zh hr1;have HK:=zh hk;have HV1:=zh (HV.1.kp hk qg);clear hk hr1 hG HV;refine (HCW.1 HV1.1).mono ?_;rintro r w2 ⟨sa,sc,aa,ac,pa,pc,rfl,hs1,hs2,hs3,hk⟩;replace HG:=zh (hk.at HG.1 qg);replace HK:=zh (HK.1.trans hk qg);have HV2:=zh (HV1.1.kp hk qg);have HS1:=zh hs1;have HS2:=zh hs2;have HS3:=zh hs3;clear hk hs1 hs2 hs3 HV1
 go_upto_region 2 with fail
 refine Bj (fun V=>Ac [] w2 V∧V.heap[w2.heap.size]? =some (.cells #[.slice sa m1 sc,.slice aa m2 ac,.slice pa m3 pc] 25 (0,0))) ⟨Av,Nv⟩ ?_;rintro w3 ⟨hk,hr1⟩;obtain ⟨X,hX⟩:∃x,x=w2.heap.size:=⟨_,rfl⟩;rw [←hX] at hr1⊢;have HX:=zh hr1;replace HG:=zh (hk.at HG.1 qg);replace HK:=zh (HK.1.trans hk qg);have HV3:=zh (HV2.1.kp hk qg);replace HS1:=zh (HS1.1.kp Bu hk qg);replace HS2:=zh (HS2.1.kp Bu hk qg);replace HS3:=zh (HS3.1.kp Bx hk qg);clear hk hr1 hX HV2;obtain ⟨l_G,x0,x1,z0,z1⟩:=Ki HG.1
 go_wp2_with fail
 clear l_G x0 x1 z0 z1;refine (HCD.1 HV3.1).mono ?_;rintro r w4 ⟨ta,tc,ua,uc,qa,qc,rfl,hs1,hs2,hs3,hk⟩;replace HX:=zh (hk.at HX.1 qg);replace HK:=zh (HK.1.trans hk qg);replace HS1:=zh (HS1.1.kp Bu hk qg);replace HS2:=zh (HS2.1.kp Bu hk qg);replace HS3:=zh (HS3.1.kp Bx hk qg);have HT1:=zh hs1;have HT2:=zh hs2;have HT3:=zh hs3;clear hk hs1 hs2 hs3 HV3 HG HCW HCD
 go_upto_region 3 with fail
 refine Bj (fun V=>Ac [] w4 V∧V.heap[w4.heap.size]? =some (.cells #[.slice ta m1 tc,.slice ua m2 uc,.slice qa m3 qc] 72 (0,0))) ⟨Av,Nv⟩ ?_;rintro w5 ⟨hk,hr1⟩;obtain ⟨Y,hY⟩:∃x,x=w4.heap.size:=⟨_,rfl⟩;rw [←hY] at hr1⊢;have HY:=zh hr1;replace HX:=zh (hk.at HX.1 qg);replace HK:=zh (HK.1.trans hk qg);replace HS1:=zh (HS1.1.kp Bu hk qg);replace HS2:=zh (HS2.1.kp Bu hk qg);replace HS3:=zh (HS3.1.kp Bx hk qg);replace HT1:=zh (HT1.1.kp Bu hk qg);replace HT2:=zh (HT2.1.kp Bu hk qg);replace HT3:=zh (HT3.1.kp Bx hk qg);clear hk hr1 hY;obtain ⟨lX,i0,i1,i2,-⟩:=Lr HX.1;obtain ⟨lY,j0,j1,j2,-⟩:=Lr HY.1;have dee:(e1 !=e1)=false:=by simp
 go_wp2_with fail
 refine (Qf HS1.1 HT1.1 HM1.1 HM1.1 HL1.1).mono ?_;rintro r w6 ⟨rfl,hk⟩;rw [Rw];replace HX:=zh (hk.at HX.1 qg);replace HY:=zh (hk.at HY.1 qg);replace HK:=zh (HK.1.trans hk qg);replace HS2:=zh (HS2.1.kp Bu hk qg);replace HS3:=zh (HS3.1.kp Bx hk qg);replace HT2:=zh (HT2.1.kp Bu hk qg);replace HT3:=zh (HT3.1.kp Bx hk qg);clear hk lX i0 i1 i2 lY j0 j1 j2 HS1 HT1;obtain ⟨lX,i0,i1,i2,-⟩:=Lr HX.1;obtain ⟨lY,j0,j1,j2,-⟩:=Lr HY.1
 go_wp2_with fail
 refine (Qf HS2.1 HT2.1 HM2.1 HM2.1 HL2.1).mono ?_;rintro r w7 ⟨rfl,hk⟩;rw [Rw];replace HX:=zh (hk.at HX.1 qg);replace HY:=zh (hk.at HY.1 qg);replace HK:=zh (HK.1.trans hk qg);replace HS3:=zh (HS3.1.kp Bx hk qg);replace HT3:=zh (HT3.1.kp Bx hk qg);clear hk lX i0 i1 i2 lY j0 j1 j2 HS2 HT2;obtain ⟨lX,i0,i1,i2,-⟩:=Lr HX.1;obtain ⟨lY,j0,j1,j2,-⟩:=Lr HY.1;have dmm:((m3:Int) !=(m3:Int))=false:=by simp
 go_wp2_with fail
 clear lX i0 i1 i2 lY j0 j1 j2
 go_loopg [9] (m3+1) (fun g j wr=>SaI m3 w7 g j wr)
 case atStart=>exact ⟨0,rfl,Nat.zero_le _,rfl,Av⟩
 obtain ⟨k,rfl,hk1,hk2,hk⟩:=hrel;have HK8:=zh hk;have HX8:=zh (hk.at HX.1 qg);have HY8:=zh (hk.at HY.1 qg);have HS8:=zh (HS3.1.kp Bx hk qg);have HT8:=zh (HT3.1.kp Bx hk qg);clear hk;obtain ⟨lX,i0,i1,i2,-⟩:=Lr HX8.1;obtain ⟨lY,j0,j1,j2,-⟩:=Lr HY8.1
 by_cases hlt:k<m3
 ·cases gk with
  |zero=>omega
  | succ f=>
   have hltp:k<lp.length:=by rw [←HM3.1];exact hlt
   obtain ⟨g1,o1,b1,d1,hpa,lg1,s1,hb1,hcp1⟩:=On HS8.1 hltp;obtain ⟨g2,o2,b2,d2,hqa,lg2,s2,hb2,hcp2⟩:=On HT8.1 hltp;have hll:=HPL.1 _ (List.getElem_mem hltp);rw [hpa] at i2;rw [hqa] at j2;obtain ⟨q,hq⟩:∃q,q=lp[k]:=⟨_,rfl⟩;have HQ:=zh hq;rw [←hq] at s1 s2 hb1 hb2 hll;clear hq;obtain ⟨n,hn⟩:∃n,n=q.length:=⟨_,rfl⟩;rw [←hn] at s1 s2 hb1 hb2 hll;have HN:=zh hn;have HB1:=zh hb1;have HB2:=zh hb2;clear hn hb1 hb2;have dnn:((n:Int) !=(n:Int))=false:=by simp
   go_wp2_with fail
   go_quiet (fail)
   go_wp2_with fail
   clear lX i0 i1 i2 lY j0 j1 j2 lg1 s1 lg2 s2
   go_loopg [10] (n+1) (fun g j wr'=>SaI n wr g j wr')
   case atStart=>exact ⟨0,rfl,Nat.zero_le _,rfl,(Ac.drewN [] _ _)⟩
   obtain ⟨k',rfl,hk1',hk2',hk⟩:=hrel;have HK9:=zh hk;have HX9:=zh (hk.at HX8.1 qg);have HY9:=zh (hk.at HY8.1 qg);have HS9:=zh (HS8.1.kp Bx hk qg);have HT9:=zh (HT8.1.kp Bx hk qg);clear hk;obtain ⟨lX,i0,i1,i2,-⟩:=Lr HX9.1;obtain ⟨lY,j0,j1,j2,-⟩:=Lr HY9.1;obtain ⟨g1',o1',b1',d1',hpa',lg1,s1,hb1,hcp1'⟩:=On HS9.1 hltp;obtain ⟨g2',o2',b2',d2',hqa',lg2,s2,hb2,hcp2'⟩:=On HT9.1 hltp;rw [←HQ.1] at s1 s2 hb1 hb2;rw [←HN.1] at s1 s2 hb1 hb2;rw [hpa'] at i2;rw [hqa'] at j2
   by_cases hlt':k'<n
   ·cases gk with
    |zero=>omega
    |succ f'=>
     have hltq:k'<q.length:=by rw [←HN.1];exact hlt'
     obtain ⟨g3,o3,rfl,lg3,t3⟩:=JE hb1 hltq;obtain ⟨g4,o4,rfl,lg4,t4⟩:=JE hb2 hltq;have hcb1:n≤d1':=by obtain ⟨a',c',h1,h2,-⟩:=hb1;injection h1 with h3 h4 h5;omega
     have hcb2:n≤d2':=by obtain ⟨a',c',h1,h2,-⟩:=hb2;injection h1 with h3 h4 h5;omega
     clear hb1 hb2;generalize q[k']=vb at*
     have dvv:(vb !=vb)=false:=by cases vb<;>rfl
     go_wp2_with fail
     go_quiet (fail)
     go_wp2_with fail
     go_roundg f'
     case measure=>omega
     case rel=>exact ⟨k'+1,by first|rfl|(simp;done)|(simp;omega),by omega,by omega,HK9.1.trans (fp':= []) (Ac.drewN [] _ _) qg⟩
   have hke:k'=n:=by omega
   subst hke;clear hb1 hb2
   go_wp2_with fail
   go_roundg f
   case measure=>omega
   case rel=>exact ⟨k+1,by first|rfl|(simp;done)|(simp;omega),by omega,by omega,(HK8.1.trans HK9.1 qg).trans (fp':= []) Av qg⟩
 have hke:k=m3:=by omega
 subst hke
 go_wp2_with fail
 refine Ap (v:= .bool true) (fun W=>Ac [] wr W) Av (fun W hW=>by simp [results,Jo,go_sem]) rfl (fun W hW=>⟨rfl,(HK.1.trans HK8.1 qg).trans hW qg⟩)
section
variable {ops:Array Oper} {o:Oper} {a:Act} {V:World} {KK:Act→World→Prop} {Q:Exit→Act→World→Prop} {E:Prop}
theorem JW(hgd:o.guard=none)(s y:Operand)(ho:o.op= .call {callee:= .builtin .append,args:= #[s,y],argTypes:= #[31,31]}){b G cap:Nat}{c0 c1 c2 c3 c4 c5 c6 c7:Value}(hs:a.eval s= .slice none 0 0)(hy:a.eval y= .slice (some ⟨G,0,none⟩) 1 cap)(hG:V.heap[G]? =some (.cells #[c0,c1,c2,c3,c4,c5,c6,c7] 61 (0,0)))(h1:∀u∈ [c0,c1,c2,c3,c4,c5,c6,c7],u.oneCell'=true)(hb:b≤V.heap.size)(h:∀cp w',Ac [] V w'→w'.ownsRow b 61 8 (.slice (some ⟨V.heap.size,0,none⟩) 1 cp) 1 [c0,c1,c2,c3,c4,c5,c6,c7]→KK (a.put o.dst (.slice (some ⟨V.heap.size,0,none⟩) 1 cp)) w'):if Region.wanted o (yielded ops a.tmps)=true then Oper.wp Tryz.prog o a V KK Q else E:=by
 obtain ⟨i,hi,hz,hsz,hby⟩:=PI;refine step_append_lies V hgd s y 31 ho b 61 i _ 8 128 Tryz.underlying31 hi hz hsz hby rfl zi (.slice none 0 0) 0 [] hs (World.ownsRow_nil _ _ _ _) ⟨G,0,none⟩ 1 cap [c0,c1,c2,c3,c4,c5,c6,c7] hy rfl (fun j u hj=> ?_) h1 jh (by simp [maxLen]) zi hb _ rfl fun g cp w1 h2 h3 h4 h5=> ?_
 ·have:=Aa hG j;exact YJ
 have hg:g=V.heap.size:=by
  rcases h4 with h4|h4
  ·simp [Value.ownBlock] at h4
  exact h4
 subst hg;exact h cp w1 (Ac.grown h3 (fun k hk=>by simp [Value.ownBlock] at hk)) h2
theorem JV(hgd:o.guard=none)(s y:Operand)(ho:o.op= .call {callee:= .builtin .append,args:= #[s,y],argTypes:= #[31,31]}){b G cap F cp:Nat}{xs:List Value}{c0 c1 c2 c3 c4 c5 c6 c7:Value}(hs:a.eval s= .slice (some ⟨F,0,none⟩) 1 cp)(hy:a.eval y= .slice (some ⟨G,0,none⟩) 1 cap)(hO:V.ownsRow b 61 8 (.slice (some ⟨F,0,none⟩) 1 cp) 1 xs)(hG:V.heap[G]? =some (.cells #[c0,c1,c2,c3,c4,c5,c6,c7] 61 (0,0)))(h1:∀u∈ [c0,c1,c2,c3,c4,c5,c6,c7],u.oneCell'=true)(hb:b≤V.heap.size)(h:∀g cp' w',Ac [F] V w'→w'.ownsRow b 61 8 (.slice (some ⟨g,0,none⟩) 2 cp') 2 (xs++ [c0,c1,c2,c3,c4,c5,c6,c7])→(g=F∨g=V.heap.size)→KK (a.put o.dst (.slice (some ⟨g,0,none⟩) 2 cp')) w'):if Region.wanted o (yielded ops a.tmps)=true then Oper.wp Tryz.prog o a V KK Q else E:=by
 obtain ⟨i,hi,hz,hsz,hby⟩:=PI;refine step_append_lies V hgd s y 31 ho b 61 i _ 8 128 Tryz.underlying31 hi hz hsz hby rfl zi (.slice (some ⟨F,0,none⟩) 1 cp) 1 xs hs hO ⟨G,0,none⟩ 1 cap [c0,c1,c2,c3,c4,c5,c6,c7] hy rfl (fun j u hj=> ?_) h1 jh (by simp [maxLen]) zi hb _ rfl fun g cp' w1 h2 h3 h4 h5=> ?_
 ·have:=Aa hG j;exact YJ
 refine h g cp' w1 (Ac.grown h3 (fun k hk=> ?_)) h2 ?_
 ·simp [Value.ownBlock] at hk;left;simp [hk]
 rcases h4 with h4|h4
 ·simp [Value.ownBlock] at h4;exact .inl h4.symm
 exact .inr h4
theorem NC(hgd:o.guard=none)(s y:Operand)(ho:o.op= .call {callee:= .builtin .append,args:= #[s,y],argTypes:= #[47,47]}){b e F Z Z1 m G cap:Nat}{v c0 c1 c2 c3 c4:Value}(hs:a.eval s=v)(hy:a.eval y= .slice (some ⟨G,0,none⟩) 1 cap)(hO:Ow b e Z m V v)(hG:V.heap[G]? =some (.cells #[c0,c1,c2,c3,c4] 50 (0,0)))(hn:Nd (F+1) Z1 V (.agg #[c0,c1,c2,c3,c4]))(he:e≤F)(hF:F<V.heap.size)(hb:b≤e)(hm:m≤100000)(h:∀v' w' fl,(∀x∈fl,b≤x∧x<e)→Ac fl V w'→(∃a c,v'= .slice a (m+1) c)→(∃ns,Bc w' (fun g=>b≤g∧g≠F) ns v'∧Pb ns∧Ar ns≤Z+Z1)→KK (a.put o.dst v') w'):if Region.wanted o (yielded ops a.tmps)=true then Oper.wp Tryz.prog o a V KK Q else E:=by
 obtain ⟨ns,q1,q2,q3,q4⟩:=hO;obtain ⟨n,p1,p2,p3⟩:=hn;obtain ⟨i,hi,hz,hsz,hby⟩:=Wo;refine Fk Dr hgd s y 47 ho Tryz.underlying47 hi hz hsz hby rfl zi zi hs hy q2 (c:= [c0,c1,c2,c3,c4]) hG ⟨rfl,p1.bound⟩ (fun g h1 h2=>by omega) (fun g h=>h.2) (fun g h=>by omega) jh jh fun v' w' fl hfl hk hw=>h v' w' fl hfl hk ?_ ⟨ns++ [n],(Im hw).keep (Ac.refl [] w') qg (fun x hx=> ?_),Na q3 p2, ?_⟩
 ·obtain ⟨aa,cc,hv,-⟩:=hw.slice;exact ⟨aa,cc,by rw [hv];simp [q1]⟩
 ·rcases hx with hx|hx|hx<;>omega
 rw [Jt];omega
theorem NB(hgd:o.guard=none)(s y:Operand)(ho:o.op= .call {callee:= .builtin .append,args:= #[s,y],argTypes:= #[47,47]}){b e Z m G cap:Nat}{v:Value}(hs:a.eval s=v)(hy:a.eval y= .slice (some ⟨G,0,none⟩) 1 cap)(hO:Ow b e Z m V v)(hG:V.heap[G]? =some (.cells #[.int .i64 0,.string ⟨#[]⟩,.float .f64 0,.slice none 0 0,.complex .f64 0 0] 50 (0,0)))(he:e≤V.heap.size)(hb:b≤e)(hm:m≤100000)(h:∀v' w' fl,(∀x∈fl,b≤x∧x<e)→Ac fl V w'→(∃ns x,ns.length=m∧Pb ns∧Ar ns≤Z∧Ax Kt 50 5 w' b (fun g=>(b≤g∧g<e)∨(V.heap.size≤g∧g<w'.heap.size)) (ns++ [x]) v')→KK (a.put o.dst v') w'):if Region.wanted o (yielded ops a.tmps)=true then Oper.wp Tryz.prog o a V KK Q else E:=by
 obtain ⟨ns,q1,q2,q3,q4⟩:=hO;obtain ⟨i,hi,hz,hsz,hby⟩:=Wo;refine Fk Dr hgd s y 47 ho Tryz.underlying47 hi hz hsz hby rfl zi zi hs hy q2 (x:=Af.mk 0 ⟨#[]⟩ 0 [] 0 0) (S:=fun _=>False) (c:= [.int .i64 0,.string ⟨#[]⟩,.float .f64 0,.slice none 0 0,.complex .f64 0 0]) hG ⟨rfl,.mk .nil⟩ (fun _ h=>h.elim) (fun _ h=>h.elim) (fun g h=>by omega) jh jh fun v' w' fl hfl hk hw=>h v' w' fl hfl hk ⟨ns,_,q1,q3,q4,hw.to Dr fun x hx=> ?_⟩
 rcases hx with hx|hx|hx
 ·exact .inl hx
 ·exact hx.elim
 exact .inr hx
end
theorem Bf{W:World}{b F cp:Nat}{xs:List Value}(h:W.ownsRow b 61 8 (.slice (some ⟨F,0,none⟩) 1 cp) 1 xs):F<W.heap.size∧∀j u,xs[j]? =some u→W.cell? ⟨F,j,none⟩=some u∧W.frozen? ⟨F,j,none⟩=false:=by
 rcases h.2 with ⟨h1,_⟩|⟨g,cap,cur,hv,hb,hg,h1,h2,h3,h4⟩
 ·cases h1
 injection hv with e1 e2 e3
 injection e1 with e1
 injection e1 with e1
 subst e1;refine ⟨Ad hg,fun j u hj=>⟨?_,Ab hg j⟩⟩;rw [Aa hg];have hj2:(cur.toList.take (1*8))[j]? =some u:=by rw [h4];exact hj
 exact WU
theorem IP{W:World}{b F cp:Nat}{xs:List Value}(h:W.ownsRow b 61 8 (.slice (some ⟨F,0,none⟩) 1 cp) 1 xs):∃cur,W.heap[F]? =some (.cells cur 61 (0,0))∧∀W':World,∀u,W'.heap[F]? =some (.cells (cur.setIfInBounds 5 u) 61 (0,0))→W'.ownsRow b 61 8 (.slice (some ⟨F,0,none⟩) 1 cp) 1 (xs.set 5 u):=by
 rcases h.2 with ⟨h1,_⟩|⟨g,cap,cur,hv,hb,hg,h1,h2,h3,h4⟩
 ·cases h1
 injection hv with e1 e2 e3
 injection e1 with e1
 injection e1 with e1
 subst e1 e3;refine ⟨cur,hg,fun W' u hr=>⟨by simpa using h.1,.inr ⟨F,_,_,rfl,hb,hr,h1,h2,by simpa using h3, ?_⟩⟩⟩;rw [←h4,Array.toList_setIfInBounds,List.take_set]
theorem De.unsnoc{α:Type}{E:α→List Value→Prop}:∀{l:List α} {x:α} {xs:List Value},De E (l++ [x]) xs→∃xs1 c,xs=xs1++c∧De E l xs1∧E x c
 | [],x,xs,h=>by
   cases h with
   |cons h t=>cases t;exact ⟨[],_,by simp,.nil,h⟩
 | y::l,x,xs,h=>by
   cases h with
   |cons h t=>
    obtain ⟨xs1,c,e,h1,h2⟩:=De.unsnoc t;exact ⟨_,c,by rw [e,List.append_assoc],.cons h h1,h2⟩
theorem CS{W:World}{b n:Nat}{T:Nat→Prop}{l:List Af}{x:Af}{v:Value}(hl:l.length=n)(h:Ax Kt 50 5 W b T (l++ [x]) v):∃K cap cur,v= .slice (some ⟨K,0,none⟩) (n+1) cap∧T K∧W.heap[K]? =some (.cells cur 50 (0,0))∧n*5+5≤cur.size∧∀W':World,Ac [K] W W'→∀d0 d1 d2 d3 d4 y S,W'.heap[K]? =some (.cells (((((cur.setIfInBounds (n*5) d0).setIfInBounds (n*5+1) d1).setIfInBounds (n*5+2) d2).setIfInBounds (n*5+3) d3).setIfInBounds (n*5+4) d4) 50 (0,0))→Au W' S y (.agg #[d0,d1,d2,d3,d4])→(∀g,S g→¬T g)→Bc W' (fun g=>T g∨S g) (l++ [y]) v:=by
 obtain ⟨xs,ho,ht,hx⟩:=h;have hlen:(l++ [x]).length=n+1:=by simp [hl]
 rw [hlen] at ho
 rcases ho.2 with ⟨-,hn⟩|⟨K,cap,cur,hv,hb,hg,h1,h2,h3,h4⟩
 ·omega
 subst hv;have htK:=ht K rfl;refine ⟨K,cap,cur,rfl,htK,hg,by rw [h3];have:=Nat.mul_le_mul_right 5 h1;omega,fun W' hk d0 d1 d2 d3 d4 y S hr hy hS=> ?_⟩;obtain ⟨xs1,c,rfl,e1,e2⟩:=De.unsnoc hx;have hl1:xs1.length=n*5:=by rw [e1.len (k:=5) (fun a c h=>Dr.len h),hl]
 obtain ⟨c0,c1,c2,c3,c4,rfl⟩:∃c0 c1 c2 c3 c4,c= [c0,c1,c2,c3,c4]:=by
  have:=Dr.len e2
  match c,this with
  | [c0,c1,c2,c3,c4],_=>exact ⟨_,_,_,_,_,rfl⟩
 have key:Ax Kt 50 5 W' b (fun g=>T g∨S g) (l++ [y]) (.slice (some ⟨K,0,none⟩) (n+1) cap):=by
  refine ⟨xs1++ [d0,d1,d2,d3,d4],⟨by simp [hl1,hl];omega,.inr ⟨K,cap,_,by simp [hl],hb,hr,by simp [hl];exact h1,h2,by simpa using h3, ?_⟩⟩,fun g hg2=> .inl (ht g hg2), ?_⟩
  ·have e:cur.toList=xs1++(c0::c1::c2::c3::c4::cur.toList.drop ((n+1)*5)):=by
    conv=>lhs;rw [←List.take_append_drop ((n+1)*5) cur.toList,h4]
    simp
   simp only [Array.toList_setIfInBounds];rw [e];simp only [List.length_append,List.length_cons,List.length_nil,hl];rw [show n*5=xs1.length by omega];simp only [List.set_append,Nat.lt_irrefl,if_false,Nat.sub_self,List.set_cons_zero,show ∀k,¬(xs1.length+k<xs1.length) from fun k=>by omega,Nat.add_sub_cancel_left,List.set_cons_succ];rw [show (n+(0+1))*5=xs1.length+5 by omega,List.take_append];simp;exact List.take_of_length_le jh
  refine De.snoc (e1.mono fun a c h=>Dr.keep h hk (fun g hg2 hs=>hs.2 (by simp at hg2;simp [Value.ownBlock,hg2])) fun g hg2=>⟨.inl hg2.1,hg2.2⟩) ⟨rfl, ?_⟩;exact hy.keep (Ac.refl [] W') qg fun g hg2=>⟨.inr hg2,fun h=>by simp [Value.ownBlock] at h;subst h;exact hS _ hg2 htK⟩
 exact Im key
def Kx(b F Z:Nat)(W:World)(v:Value):Prop:=∃ns,Bc W (fun g=>b≤g∧g≠F) ns v∧Pb ns∧Ar ns≤Z
theorem Kx.step{b F Z:Nat}{W W':World}{v:Value}{fp:List Nat}(h:Kx b F Z W v)(hk:Ac fp W W')(hf:∀x∈fp,x<b∨x=F):Kx b F Z W' v:=by
 obtain ⟨n,h1,h2⟩:=h;exact zpb
theorem Kx.kd{b b' F Z Z':Nat}{W:World}{v:Value}(h:Kx b F Z W v)(hb:b'≤b)(hZ:Z≤Z'):Kd b' Z' W v:=by
 obtain ⟨n,h1,h2,h3⟩:=h;exact ⟨n,h1.keep (Ac.refl [] W) qg (fun x hx=>Nat.le_trans hb hx.1),h2,by omega⟩
theorem Yi(W:World)(S:Nat→Prop):∀l:List ByteArray,De (Ef W S) l (l.map fun s=>Value.string s)
 | []=> .nil
 |s::l=>De.cons (c:= [.string s]) (E:=Ef W S) rfl (Yi W S l)
theorem IB{W:World}{S:Nat→Prop}{P:Nat}{l:List ByteArray}{c:Array Value}(hc:c=(l.map fun s=>Value.string s).toArray)(h:W.heap[P]? =some (.cells c 9 (0,0)))(hS:S P):Aq Ef W S l (.slice (some ⟨P,0,none⟩) l.length l.length):=by
 refine ⟨_,_,rfl,Nat.le_refl _,fun _=>⟨P,0,l.map fun s=>Value.string s,rfl,hS,Ad h,Yi W S l,fun j u hj=> ?_⟩⟩;rw [Nat.zero_add,Aa h,hc];simpa using hj
theorem NY{w W:World}{e m g cp b P P2 ka2 vc km kc:Nat}{va ka:Option Addr}{k0 k1 k2 k3 k4:Value}(hO:BV (w.heap.size+3) e (m*24550) m W (.slice va m vc))(hm:m≤4)(hb:w.heap.size≤b)(hf:W.ownsRow b 61 8 (.slice (some ⟨g,0,none⟩) 2 cp) 2 ([.string ⟨#[102]⟩,.slice (some ⟨P,0,none⟩) 2 2,.int .i64 30,.string ⟨#[]⟩,.float .f64 0,.slice ka km kc,.complex .f64 0 0,.complex .f64 0 0]++ [.string ⟨#[103]⟩,.slice (some ⟨P2,0,none⟩) 1 1,k0,k1,k2,k3,k4,.complex .f64 0 0]))(hP:W.heap[P]? =some (.cells #[.string ⟨#[112]⟩,.string ⟨#[113]⟩] 9 (0,0)))(hP2:W.heap[P2]? =some (.cells #[.string ⟨#[122]⟩] 9 (0,0)))(hPw:w.heap.size≤P)(hP2w:w.heap.size≤P2)(hk1:Kd w.heap.size 4100 W (.slice ka km kc))(hn2:Nd w.heap.size 100 W (.agg #[k0,k1,k2,k3,k4])):∃gp,Iu W (fun x=>w.heap.size≤x) gp (.agg #[.slice va m vc,.slice (some ⟨g,0,none⟩) 2 cp])∧VT gp:=by
 obtain ⟨rs,r1,r2,r3,r4⟩:=hO;obtain ⟨ks,s1,s2,s3⟩:=hk1;obtain ⟨n2,t1,t2,t3⟩:=hn2
 rcases hf.2 with ⟨h1,_⟩|⟨g',cap,cur,hv,hbg,hg,h1,h2,h3,h4⟩
 ·cases h1
 injection hv with e1 e2 e3
 injection e1 with e1
 injection e1 with e1
 subst e1 e3;obtain ⟨a',c',e4⟩:=s1.shape;injection e4 with e5 e6 e7
 subst e5 e6 e7;have hr:=(Eg Dh r2).to Dh (T:=fun x=>w.heap.size≤x) (fun x hx=>by omega);refine ⟨⟨rs,[⟨⟨#[102]⟩,[⟨#[112]⟩,⟨#[113]⟩],.mk 30 ⟨#[]⟩ 0 ks 0 0,0,0⟩,⟨⟨#[103]⟩,[⟨#[122]⟩],n2,0,0⟩]⟩,⟨va,vc,some ⟨g,0,none⟩,cp,by rw [r1];rfl,by rw [r1];exact hr, ?_⟩, ?_⟩
 ·refine ⟨_,cp,rfl,h1,fun _=>⟨g,0,_,rfl,by omega,Ad hg,De.cons (c:= [.string ⟨#[102]⟩,.slice (some ⟨P,0,none⟩) 2 2,.int .i64 30,.string ⟨#[]⟩,.float .f64 0,.slice ka ks.length kc,.complex .f64 0 0,.complex .f64 0 0]) ⟨_,_,_,_,_,_,_,rfl,IB rfl hP hPw,.mk s1⟩ (De.cons (c:= [.string ⟨#[103]⟩,.slice (some ⟨P2,0,none⟩) 1 1,k0,k1,k2,k3,k4,.complex .f64 0 0]) ⟨_,_,_,_,_,_,_,rfl,IB rfl hP2 hP2w,t1⟩ .nil),fun j u hj=> ?_⟩⟩;rw [Nat.zero_add,Aa hg];have hj2:(cur.toList.take (2*8))[j]? =some u:=by rw [h4];exact hj
  exact WU
 have hmz:=Nat.mul_le_mul_right 24550 hm;refine ⟨r3,fun f hf=> ?_, ?_⟩
 ·simp only [List.mem_cons,List.not_mem_nil,or_false] at hf
  rcases hf with rfl|rfl
  ·rw [Ur];exact ⟨⟨fun h=>absurd h zi,rfl,rfl,s2⟩,rfl,rfl⟩
  exact ⟨t2,rfl,rfl⟩
 simp only [In,Ij,Bo,List.length_cons,List.length_nil];omega
def NdB(b e:Nat)(W:World)(n:Af)(v:Value):Prop:=Au W (fun g=>b≤g∧g<e) n v
theorem Nd.bd{b Z:Nat}{W:World}{v:Value}(h:Nd b Z W v):∃n,NdB b W.heap.size W n v∧Ur n∧Bo n≤Z:=by
 obtain ⟨n,h1,h2,h3⟩:=h;exact ⟨n,h1.bound,h2,h3⟩
theorem NdB.step{b e:Nat}{W W':World}{n:Af}{v:Value}{fp:List Nat}(h:NdB b e W n v)(hk:Ac fp W W')(hf:∀x∈fp,x<b∨e≤x):NdB b e W' n v:=by
 have h':Au W (fun g=>b≤g∧g<e) n v:=h;exact h'.keep hk (fun x hx hb=>by have:=hf x hx;omega) fun _ h=>h
end Go.Proofs.YtkfillfkbhbbjaaGreatDoor
