/- DWr, DWt, NodL, Leav, NodV, RegI. -/
import Derived.Test.YtkfillfkbhbbjaaGreatDoorDWq
import Derived.Test.YtkfillfkbhbbjaaGreatDoorRegS
import Derived.Test.YtkfillfkbhbbjaaGreatDoorDWk
import Derived.Test.YtkfillfkbhbbjaaGreatDoorPLb
import Derived.Defers
import Derived.Orders
set_option maxRecDepth 100000
set_option maxHeartbeats 4000000
set_option linter.unusedSimpArgs false
set_option linter.unusedVariables false
namespace Go.Proofs.YtkfillfkbhbbjaaGreatDoor
open Go.RowKit
def GaB(K:Br)(x:DX)(fn:Nat)(arr:Int)(kids:List Af)(st':DS)(w:World)(B:Nat)(o:Obj)(g:Nat)(j:Value)(W:World):Prop:=
 ∃(k:Nat) (A:DA) (st:DS),j= .int .i64 k∧k≤kids.length∧g=kids.length+1 -k∧Ee (Xt K.g fn arr k (kids.drop k)) st=some st'∧DK K A x st W∧DI st∧Bh w W∧W.heap[B]? =some o
theorem Abe{p:Prop}(h:p:=by
 go_upto_region 20 with fail
 refine Bj (fun W=>Ac [] wr W∧W.heap[wr.heap.size]? =some (Gm 4 kk.name fm3 na3 kk.kids.length nc3 kk.re kk.im)) ⟨Av,Nv⟩ ?_;rintro wa ⟨hka,hba⟩;have HKb:=zh hba;have HBa:=zh (hka.at HB.1 qg);have HDa:=zh (HD.1.kp0 hka);have HKa:=zh hka;clear hka hba l_B x0 x1 x2 x3 x4 z0 z1 z2 z3 z4 d0 d1 d2 d3 d4 l2;have l_c:=HDa.1.lt;have c7:=Aa HDa.1.row 7;have y7:=Ab HDa.1.row 7;simp at c7;obtain ⟨l_K,x0,x1,x2,x3,x4,z0,z1,z2,z3,z4⟩:=Bv HKb.1
 go_still_tail 9,qh
 change wpList _ _ _ _ _ wa.drew
 have HKd:=zh (HKa.1.trans (Ac.drew [] wa) qg);have HBd:=zh ((Ac.drew [] wa).at HBa.1 qg);clear HBa HKa HDa HKb;generalize wa.drew=wd at*
 go_wp2_with fail
 refine (HU.1 _ HKd.1).mono ?_;rintro r wq ⟨rfl,⟨A9,hd⟩,hs⟩;have HD9:=zh hd;have HS9:=zh ((HS.1.add HKd.1).trans hs);have HB9:=zh (hs.at HBd.1 qg);clear hd hs HKd HBd l_c c7 y7 l_K x0 x1 x2 x3 x4 z0 z1 z2 z3 z4
 go_wp2_with fail
 go_roundg f
 case measure=>omega
 case rel=>exact ⟨k+1,_,_,by first|rfl|(simp;done)|(simp;omega),by omega,by omega,HE2.1,HD9.1.kp0 Av,HI9.1,HS9.1.add Av,Ac.at (fp:= []) Av HB9.1 qg⟩):p:=h
theorem Abf{p:Prop}(h:p:=by
 go_upto_region 22 with fail
 refine Bj (fun W=>Ac [] wr W∧W.heap[wr.heap.size]? =some (Gm kk.kind kk.name fm3 na3 kk.kids.length nc3 kk.re kk.im)) ⟨Av,Nv⟩ ?_;rintro wa ⟨hka,hba⟩;have HKb:=zh hba;have HBa:=zh (hka.at HB.1 qg);have HDa:=zh (HD.1.kp0 hka);have HKa:=zh hka;obtain ⟨Kb,hKb⟩:∃b,b=wr.heap.size:=⟨_,rfl⟩;rw [←hKb] at HKb⊢;clear hka hba hKb l_B x0 x1 x2 x3 x4 z0 z1 z2 z3 z4 d0 d1 d2 d3 d4 l2;have l_c:=HDa.1.lt;have c3:=Aa HDa.1.row 3;have y3:=Ab HDa.1.row 3;simp at c3;obtain ⟨l_K,x0,x1,x2,x3,x4,z0,z1,z2,z3,z4⟩:=Bv HKb.1
 go_cut [] (fun W=>(∃A2,DK K A2 x {s1 with uses:=s1.uses++ [⟨-1,3,kk.re,kk.im⟩]} W)∧Bh wa W)
 case first=>
  refine Ck (n:=12) (S:=fun V=>V.cell? ⟨K.c,3,none⟩=some (.slice A1.ua s1.uses.length A1.uc)∧V.cell? ⟨Kb,4,none⟩=some (.complex .f64 kk.re kk.im)) (st:=111) (p:= .tmp 130) (v:= .tmp 128) qh qh qh rfl ⟨Aa (HDa.1.kp0 (Ac.drew [] wa)).row 3,Aa ((Ac.drew [] wa).at HKb.1 qg) 4⟩ ?_;intro Rq hR1 hR3 hSS;refine WC ?_;replace HDa:=zh (HDa.1.kp0 (Ac.drew [] wa));replace HKb:=zh ((Ac.drew [] wa).at HKb.1 qg);have HKd:=zh (Ac.drew [] wa);clear l_c c3 y3 l_K x0 x1 x2 x3 x4 z0 z1 z2 z3 z4;obtain ⟨wd,hwd⟩:∃v,v=wa.drew:=⟨_,rfl⟩;rw [←hwd] at HDa HKb HKd hSS⊢;clear hwd;refine VX ?_;refine Ej ?_;refine WB ?_;refine Ej ?_;refine YT ?_;refine Ej ?_;refine WK ?_;refine Ej ?_;refine ZA ?_;refine Ej ?_;refine VW ?_;refine Ej ?_;refine zkc ?_;refine Ej ?_;refine YY ?_;refine Ej ?_;refine YR ?_;refine AllReadyH.cons rfl (fun KQ hK=> ?_) AllReadyH.nil
  go_simp
  refine hK.out _ _ (⟨Aa (HDa.1.kp0 Av).row 3,Aa (Ac.at (fp:= []) Av HKb.1 qg) 4⟩) (fun hSS=> ?_);clear hK;refine Gv ?_;refine Bw (fun V=>Ac [] wd V∧V.heap[wd.heap.size]? =some (.cells (RX ⟨-1,3,kk.re,kk.im⟩).toArray 149 (0,0))∧V.cell? ⟨K.c,3,none⟩=some (.slice A1.ua s1.uses.length A1.uc)∧V.cell? ⟨Kb,4,none⟩=some (.complex .f64 kk.re kk.im)) ⟨Av,Nv,hSS⟩ ?_;clear hSS;rintro we ⟨hka,cG,hSS⟩;refine XG ?_;refine AllReadyH.cons rfl (fun KQ hK=> ?_) AllReadyH.nil;refine Mx usL us1 rfl (.tmp 123) (.tmp 127) rfl Tryz.underlying111 HIT.1.1 HIT.1.2.1 HIT.1.2.2.1 HIT.1.2.2.2 rfl zi zi rfl rfl (HDa.1.kp0 hka).uses (x:=(⟨-1,3,kk.re,kk.im⟩:Gq)) ⟨_,cG⟩ (HDa.1.kp0 hka).keep.size HUL.1 ?_;rintro g cp wf ⟨hro,hkt,-,hk0⟩;refine hK.out _ _ (⟨Aa (hkt.at (HDa.1.kp0 hka).row qg) 3,Aa (hkt.at (hka.at HKb.1 qg) qg) 4⟩) (fun hSS=> ?_);clear hK;refine Gv ?_;refine Mo (i:=10) (fun c a' w'=>hR3 c _ _ _ (fun h=>h)) hSS ?_;refine Ej ?_;refine qlc ?_;refine Ej ?_;have r_c:=hkt.at (HDa.1.kp0 hka).row qg;have lb:=Ad r_c;have b3:=Aa r_c 3;have v3:=Ab r_c 3;simp at b3;refine EY ?_;refine hR1 _ _ (fun K' hK'=> ?_);have HQQ:=zh hK';clear hR1 hR3 hSS hK'
  go_simp
  refine HQQ.1 _ _ ?_;clear HQQ
  go_wp2_with fail
  go_meet
  have hgr:=fun W h1 h2=>(HDa.1.kp0 hka).grewU (w3:=W) hK hro hkt hk0 h1 h2
  exact zmc
 obtain ⟨⟨A2,hd⟩,hs⟩:=hcut;replace HD:=zh hd;replace HB:=zh (hs.at HBa.1 qg);replace HS:=zh ((HS.1.add HKa.1).trans hs);replace HKb:=zh (hs.at HKb.1 qg);clear hd hs HBa HDa HKa l_c c3 y3 l_K x0 x1 x2 x3 x4 z0 z1 z2 z3 z4;generalize wc=wl at*
 obtain ⟨l_K,x0,x1,x2,x3,x4,z0,z1,z2,z3,z4⟩:=Bv HKb.1
 go_wp2_with fail
 refine (HREC.1 kk HSZ.1 _ _ _ _ _ _ HD.1 HI2.1 HN.1 HWf.1 HFl.1 HE1.1).mono ?_;rintro r w9 ⟨rfl,⟨A9,hd⟩,hs,hi9⟩;have HD9:=zh hd;have HS9:=zh (HS.1.trans hs);have HB9:=zh (hs.at HB.1 qg);have HI9:=zh hi9;clear hd hs hi9 l_K x0 x1 x2 x3 x4 z0 z1 z2 z3 z4
 go_wp2_with fail
 go_roundg f
 case measure=>omega
 case rel=>exact ⟨k+1,_,_,by first|rfl|(simp;done)|(simp;omega),by omega,by omega,HE2.1,HD9.1.kp0 Av,HI9.1,HS9.1.add Av,Ac.at (fp:= []) Av HB9.1 qg⟩):p:=h
theorem Wx{K:Br}(hK:Ff K){A:DA}{x:DX}{st st':DS}{w:World}{fn N:Nat}(h:DK K A x st w)(hi:DI st)(hfn:x.fn=(fn:Int) -1)(hfl:fn≤K.g.funcs.length)(hrec:Xr K x fn N)(tx:ByteArray)(arr:Nat)(htx:(tx=⟨#[115,112,108,105,116]⟩∧arr=1)∨(tx=⟨#[101,120,112,105,114,101]⟩∧arr=0))(fm:Nat)(na:Option Addr)(nc re im:Nat)(al:Bool)(kids:List Af)(hkl:kids.length≤1000000)(hkd:Bc K.w0 (fun _=>True) kids (.slice na kids.length nc))(hks:Ar kids≤N)(hwf:Oy kids)(hfk:∀kk∈kids,∃kd lo,Dg K.g fn kd lo kk=none)(hek:Ee (Xt K.g fn arr 0 kids) st=some st'):Calls Tryz.prog 86 #[.pointer (some ⟨K.c,0,none⟩),.agg #[.int .i64 20,.string tx,.float .f64 fm,.slice na kids.length nc,.complex .f64 re im],.bool al] w fun r w'=>r= .returned (.tuple #[])∧(∃A',DK K A' x st' w')∧Bh w w'∧DI st':=by
 have HD0:=zh h;have HI:=zh hi;have HE:=zh hek;have HREC:=zh hrec;have HKD:=zh hkd;have HKS:=zh hks;have HWK:=zh (fun kk (hm:kk∈kids)=>Kk hwf hm);have HFK:=zh hfk;have HFN:=zh hfn;obtain ⟨i149,hi149⟩:=AY;have HIT:=zh hi149;clear h hi hek hrec hkd hks hwf hfk hfn hi149
 rcases htx with ⟨rfl,rfl⟩|⟨rfl,rfl⟩
 all_goals
  go_enter Tryz.func86,Tryz.ntmps86
  go_upto_region 13 with fail
  refine Bj (fun W=>Ac [] w W∧W.heap[w.heap.size]? =some (Gm 20 _ fm na kids.length nc re im)) ⟨Av,Nv⟩ ?_;rintro wq ⟨hka,hba⟩;have HB:=zh hba;have HS:=zh (KT.of0 (ts:=JK) hka);have HD:=zh (HD0.1.kp0 hka);clear hka hba
  go_wp2_with fail
  first
  | go_loopg [7] (kids.length+1) (fun g j wr=>GaB K x fn (1:Nat) kids st' w w.heap.size (Gm 20 ⟨#[115,112,108,105,116]⟩ fm na kids.length nc re im) g j wr)
    case atStart=>exact ZQ
  | go_loopg [7] (kids.length+1) (fun g j wr=>GaB K x fn (0:Nat) kids st' w w.heap.size (Gm 20 ⟨#[101,120,112,105,114,101]⟩ fm na kids.length nc re im) g j wr)
    case atStart=>exact ZQ
  clear HD HI HS HB HE;obtain ⟨k,A1,s1,rfl,hk1,hk2,he,hd,hi,hs,hb⟩:=hrel;have HD:=zh hd;have HS:=zh hs;have HB:=zh hb;have HI:=zh hi;have HE:=zh he;clear hd hs hb hi he;obtain ⟨l_B,x0,x1,x2,x3,x4,z0,z1,z2,z3,z4⟩:=Bv HB.1
  by_cases hlt:k<kids.length
  ·cases gk with
   |zero=>omega
   | succ f=>
    obtain ⟨g3,o3,fm3,na3,nc3,hna3,d0,d1,d2,d3,d4,hn,l2⟩:=Iy HD.1.keep HKD.1 hlt;subst hna3;have HN:=zh hn;have HSZ:=zh (Nat.le_trans (Hb (List.getElem_mem hlt)) HKS.1);have HWf:=zh (HWK.1 _ (List.getElem_mem hlt));have HFl:=zh (HFK.1 _ (List.getElem_mem hlt));have h:=HE.1;rw [List.drop_eq_getElem_cons hlt,Xt,Cl,Option.bind_eq_some_iff] at h;obtain ⟨s2,h1,h2⟩:=h;have HE2:=zh h2;clear hn h2 HE;generalize kids[k]=kk at*
    split at h1
    ·rename_i hka;have hkb:=hka
     first
     |replace hkb:((k:Int)==1)=true:=by rw [hka];rfl
     |replace hkb:((k:Int)==0)=true:=by rw [hka];rfl
     split at h1
     ·rename_i h4;rw [h4] at d0;clear hka
      have h5:It s1 (.use (Du K.g fn kk.name) true kk.re kk.im)=some s2:=by
       rw [Do] at h1
       cases hq:It s1 (.use (Du K.g fn kk.name) true kk.re kk.im) with
       |none=>rw [hq] at h1;cases h1
       |some s=>rw [hq] at h1;exact h1
      have HI9:=zh (HI.1.ev h5);simp only [It,Option.bind_eq_some_iff] at h5;obtain ⟨⟨i,d1'⟩,g1,g2⟩:=h5;have HU:=zh (fun W (hk:Ac [] wr W)=>Rb hK (HD.1.kp0 hk) fn hfl kk.name HFN.1 2 kk.re kk.im g1 g2 HI.1.1);rw [h4] at HN;clear h1 g1 g2 h4;exact Abe
     rename_i h4;have h4b:(kk.kind==4)=false:=beq_false_of_ne h4;rw [Do,Option.bind_eq_some_iff] at h1;obtain ⟨s3,h5,h6⟩:=h1;have HI2:=zh (HI.1.ev h5);have HUL:=zh HI.1.2.2
     have h7:s3={s1 with uses:=s1.uses++ [⟨-1,3,kk.re,kk.im⟩]}:=by
      simp only [It,Jx] at h5
      split at h5
      ·cases h5;rfl
      cases h5
     subst h7;have HE1:Hd (Ee (EZ K.g fn false kk) {s1 with uses:=s1.uses++ [⟨-1,3,kk.re,kk.im⟩]}=some s2):=zh (by rw [Pv];exact h6);clear hka h4 h5 h6;exact Abf
    rename_i hka;have HE1:Hd (Ee (EZ K.g fn false kk) s1=some s2):=zh (by rw [Pv];exact h1);have hkb:=hka
    first
    |replace hkb:((k:Int)==1)=false:=beq_false_of_ne (fun e=>hka (by rw [e];rfl))
    |replace hkb:((k:Int)==0)=false:=beq_false_of_ne (fun e=>hka (by rw [e];rfl))
    clear h1 hka;exact XQ
  have hke:k=kids.length:=by omega
  subst hke;have hst:s1=st':=by have h:=HE.1;rw [List.drop_length,Xt] at h;cases h;rfl
  exact zfe
theorem ca1(x:Xs):∀u∈XX x,u.oneCell'=true:=by intro u hu;simp [XX] at hu;rcases hu with rfl|rfl|rfl<;>rfl
theorem UM:∃i,Tryz.prog.info? 180=some i∧i.zero=some (.agg #[.int .i64 0,.int .i64 0,.complex .f64 0 0])∧i.size=3∧i.bytes=32:=by
 have h:(Tryz.prog.info? 180).map (fun i=>(i.zero,i.size,i.bytes))=some (some (.agg #[.int .i64 0,.int .i64 0,.complex .f64 0 0]),3,32):=by kernel_rfl
 cases hi:Tryz.prog.info? 180 with
 |none=>rw [hi] at h;cases h
 |some i=>rw [hi] at h;simp at h;exact ⟨i,rfl,h.1,h.2.1,h.2.2⟩
theorem DO{K:Br}(hK:Ff K){A:DA}{x:DX}{st:DS}{w:World}(h:DK K A x st w){name:ByteArray}{m:Nat}(hm:flook K.g name=m+1):
  Calls Tryz.prog 80 #[.pointer (some ⟨K.c,0,none⟩),.string name] w fun r w'=>r= .returned (.int .i64 (m:Nat))∧Ac [] w w':=
 (Hh hK h name).mono fun r w' ⟨h1,h2⟩=>⟨by rw [h1,hm];congr 2;omega,h2⟩
theorem IU{p:ByteArray}:∀{l:List ByteArray},p∈l→Dn p l=true
 | x::l,h=>by
   rw [Dn]
   split
   ·rfl
   rename_i q
   rcases List.mem_cons.1 h with rfl|h
   ·exact absurd (Cv.2 rfl) q
   exact IU h
theorem Vq{g:Ah}{m:Nat}(hm:m<g.funcs.length){p:ByteArray}(hp:p∈g.funcs[m].params):Du g (m+1) p=(m+1,p):=by
 have hq:Bk g (m+1)=g.funcs[m].params:=by simp [Bk,hm]
 rw [Du,hq,if_pos ⟨by omega,IU hp⟩]
theorem TC{st:DS}{i r:Nat}(h:Jb st i=some r):r<st.things.length:=by
 have:∀(f i:Nat),Jy st.things f i=some r→r<st.things.length:=by
  intro f
  induction f with
  |zero=>intro i h;cases h
  | succ f ih=>
   intro i h;rw [Jy] at h
   cases hx:st.things[i]? with
   |none=>rw [hx] at h;cases h
   |some x=>
    rw [hx] at h;simp only at h
    split at h
    ·cases h;exact (List.getElem?_eq_some_iff.1 hx).1
    exact ih _ h
 exact this _ _ h
def GaC(K:Br)(x:DX)(fn m:Nat)(ps:List ByteArray)(kids:List Af)(st':DS)(w:World)(B:Nat)(o:Obj)(g:Nat)(j:Value)(W:World):Prop:=
 ∃(k:Nat) (A:DA) (st:DS),j= .int .i64 k∧k≤kids.length∧g=kids.length+1 -k∧Ee (Zl K.g fn (m+1) (ps.drop k) (kids.drop k)) st=some st'∧DK K A x st W∧DI st∧Bh w W∧W.heap[B]? =some o
theorem Abc{p:Prop}(h:p:=by
 have HI2:=zh (HI.1.ev HEV.1);have h5:=HEV.1;simp only [It,Option.bind_eq_some_iff,Option.some.injEq] at h5;obtain ⟨⟨q,d1⟩,g1,⟨i,d2⟩,g2,s3,g3',xr,g4,yr,g5,g6⟩:=h5;have hse:It d1 (.see (Du K.g fn kk.name) kk.re kk.im)=some s3:=by rw [It,g2];exact g3'
 have HSEE:Hd (Ee (EZ K.g fn true kk) d1=some s3):=zh (by rw [EZ,if_pos ⟨rfl,HK4.1⟩,Do,hse];rfl);have HI1:=zh (HI.1.of g1);have HI3:=zh ((HI.1.of g1).ev hse)
 have hs3:s3.things=d2.things:=by
  unfold Jx at g3';split at g3'
  ·cases g3';rfl
  cases g3'
 have HOF2:=zh (LY g2 hs3);have HR1:=zh g4;have HR2:=zh g5;have HG1:=zh g1;have HXL:=zh (TC g4);have g1':=g1;clear g1;have HEI:=zh (show s2=Ir s3 xr yr by rw [←g6]);clear g1' g2 g3' g4 g5 g6 hse hs3;refine (Oo hK HD.1 (m+1) jh pv (v:=(m:Int)) jh (by rw [HRT.1];exact HG1.1) HI.1.1).mono ?_;rintro r wc ⟨ta,tc,rfl,hd,hs⟩;replace HD:=zh hd;replace HS:=zh (HS.1.trans hs);replace HB:=zh (hs.at HB.1 qg);replace HKb:=zh (hs.at HKb.1 qg);clear hd hs l_K x0 x1 x2 x3 x4 z0 z1 z2 z3 z4 c1 y1 l_c e1 ep lf;obtain ⟨l_K,x0,x1,x2,x3,x4,z0,z1,z2,z3,z4⟩:=Bv HKb.1;have h4b:=HK4.1;rw [h4b] at x0
 go_wp2_with fail
 rw [←h4b];refine (HREC.1 kk HSZ.1 _ _ _ _ _ _ HD.1 HI1.1 HN.1 HWf.1 HFl.1 HSEE.1).mono ?_;rintro r wd ⟨rfl,⟨A3,hd⟩,hs,-⟩;replace HD:=zh hd;replace HS:=zh (HS.1.trans hs);replace HB:=zh (hs.at HB.1 qg);replace HKb:=zh (hs.at HKb.1 qg);clear hd hs l_K x0 x1 x2 x3 x4 z0 z1 z2 z3 z4
 go_upto_region 29 with fail
 have l_c:=HD.1.lt;have l_K:=Ad HKb.1
 go_region_held3 (fun V=>V.cell? ⟨K.c,7,none⟩=some (.int .i64 x.fn)∧V.cell? ⟨Kb,1,none⟩=some (.string kk.name))
  (first
   |exact ⟨Aa (HD.1.kp0 Av).row 7,Aa (Ac.at (fp:= []) Av HKb.1 qg) 1⟩)
  (first
   | (go_at_call 53
      refine (Oo hK (HD.1.kp0 Av) fn hfl kk.name HFN.1 HOF2.1 HI3.1.1).mono ?_;rintro r we ⟨ta2,tc2,rfl,hd,hs⟩;replace HD:=zh hd;replace HS:=zh ((HS.1.add Av).trans hs);replace HB:=zh (hs.at (Ac.at (fp:= []) Av HB.1 qg) qg);replace HKb:=zh (hs.at (Ac.at (fp:= []) Av HKb.1 qg) qg);clear hd hs l_K l_c)
   | (go_at_call 50
      refine (Hw (HD.1.kp0 Av) HI3.1.1 HR1.1).mono ?_;rintro r wf ⟨rfl,hk⟩;replace HS:=zh (HS.1.add hk);replace HB:=zh (hk.at HB.1 qg);replace HKb:=zh (hk.at HKb.1 qg);replace HD:=zh (HD.1.kp0 hk);clear hk))
 go_wp2_with fail
 refine (Hw HD.1 HI3.1.1 HR2.1).mono ?_;rintro r wg ⟨rfl,hk⟩;replace HD:=zh (HD.1.kp0 hk);replace HS:=zh (HS.1.add hk);replace HB:=zh (hk.at HB.1 qg);clear hk;obtain ⟨gt,hta,lt,hxl,⟨cur,hcur⟩,t0,t1,t2⟩:=HD.1.thing (List.getElem?_eq_getElem HXL.1);have hcap:=HD.1.things.cap;have hl3:=HI3.1.1;have l_c:=HD.1.lt;have c2:=Aa HD.1.row 2;have y2:=Ab HD.1.row 2;simp at c2;have hfz:=Ab hcur (xr*3+2);replace hta:ta2=some ⟨gt,0,none⟩:=hta;rw [hta] at c2;have hlk:=fun W h1 h2=>HD.1.like hK (W':=W) (j:=yr) HXL.1 hta h1 hcur h2
 rw [←HEI.1] at hlk
 go_wp2_with fail
 go_roundg f
 case measure=>omega
 exact ⟨k+1,_,s2,by first|rfl|(simp;done)|(simp;omega),by omega,by omega,HE2.1,(hlk _ Av (Kj hcur)).1,HI2.1,HS.1.trans (hlk _ Av (Kj hcur)).2,(hlk _ Av (Kj hcur)).2.at HB.1 qg⟩):p:=h
theorem Abd{p:Prop}(h:p:=by
 have h5:=HEV.1;simp only [It,Option.bind_eq_some_iff] at h5;obtain ⟨⟨q,d1⟩,g1,g2⟩:=h5;have HI2:=zh (HI.1.ev HEV.1);have HI1:=zh (HI.1.of g1)
 have HUL:=zh (show d1.uses.length<1000000∧s3={({d1 with calls:=d1.calls++ [⟨q,d1.uses.length,kk.re,kk.im⟩]}:DS) with uses:=d1.uses++ [⟨q,0,kk.re,kk.im⟩]} by
  unfold Jx at g2;split at g2
  ·rename_i hq;exact ⟨hq,by cases g2;rfl⟩
  cases g2)
 have HG1:=zh g1;clear g1 g2;refine (Oo hK HD.1 (m+1) jh pv (v:=(m:Int)) jh (by rw [HRT.1];exact HG1.1) HI.1.1).mono ?_;rintro r wc ⟨ta,tc,rfl,hd,hs⟩;replace HD:=zh hd;replace HS:=zh (HS.1.trans hs);replace HB:=zh (hs.at HB.1 qg);replace HKb:=zh (hs.at HKb.1 qg);clear hd hs l_K x0 x1 x2 x3 x4 z0 z1 z2 z3 z4 c1 y1 l_c e1 ep lf;obtain ⟨l_K,x0,x1,x2,x3,x4,z0,z1,z2,z3,z4⟩:=Bv HKb.1
 go_upto_region 32 with fail
 obtain ⟨A2,hA2⟩:∃A2,A2=({A1 with ta:=ta,tc:=tc}:DA):=⟨_,rfl⟩;rw [←hA2] at HD;clear hA2;generalize wc=wq at*
 have l_c:=HD.1.lt;have c3:=Aa HD.1.row 3;have y3:=Ab HD.1.row 3;have c4:=Aa HD.1.row 4;have y4:=Ab HD.1.row 4;simp at c3 c4
 go_cut [] (fun W=>(∃A3,DK K A3 x {d1 with calls:=d1.calls++ [⟨q,d1.uses.length,kk.re,kk.im⟩]} W)∧Bh wq W)
 case first=>
  refine Ck (n:=18) (S:=fun V=>V.cell? ⟨K.c,4,none⟩=some (.slice A2.ca d1.calls.length A2.cc)∧V.cell? ⟨K.c,3,none⟩=some (.slice A2.ua d1.uses.length A2.uc)∧V.cell? ⟨Kb,4,none⟩=some (.complex .f64 kk.re kk.im)) (st:=112) (p:= .tmp 201) (v:= .tmp 199) qh qh qh rfl ⟨Aa (HD.1.kp0 (Ac.drew [] wq)).row 4,Aa (HD.1.kp0 (Ac.drew [] wq)).row 3,Aa ((Ac.drew [] wq).at HKb.1 qg) 4⟩ ?_;intro Rq hR1 hR3 hSS;refine WC ?_;replace HD:=zh (HD.1.kp0 (Ac.drew [] wq));replace HKb:=zh ((Ac.drew [] wq).at HKb.1 qg);have HKd:=zh (Ac.drew [] wq);clear l_c c3 y3 c4 y4 l_K x0 x1 x2 x3 x4 z0 z1 z2 z3 z4;obtain ⟨wd,hwd⟩:∃v,v=wq.drew:=⟨_,rfl⟩;rw [←hwd] at HD HKb HKd hSS⊢;clear hwd;refine VX ?_;refine Ej ?_;refine WB ?_;refine Ej ?_;refine YT ?_;refine Ej ?_;refine WK ?_;refine Ej ?_;refine ZA ?_;refine Ej ?_;refine VW ?_;refine Ej ?_;refine zkc ?_;refine Ej ?_;refine YY ?_;refine Ej ?_;refine jmc ?_;refine Ej ?_;refine Mo (i:=9) (fun c a' w'=>hR3 c _ _ _ (fun h=>h)) hSS ?_;refine Ej ?_;refine Mo (i:=10) (fun c a' w'=>hR3 c _ _ _ (fun h=>h)) hSS ?_;refine Ej ?_;refine qlc ?_;refine Ej ?_;refine qmc ?_;refine Ej ?_;refine znc ?_;refine Ej ?_;refine wpAnyH_ready (rs:= [14]) qh qg ?_;refine AllReadyH.cons rfl (fun KQ hK=> ?_) AllReadyH.nil
  go_simp
  refine hK.out _ _ (⟨Aa (HD.1.kp0 Av).row 4,Aa (HD.1.kp0 Av).row 3,Aa (Ac.at (fp:= []) Av HKb.1 qg) 4⟩) (fun hSS=> ?_);clear hK;refine Gv ?_;refine Bw (fun V=>Ac [] wd V∧V.heap[wd.heap.size]? =some (.cells (XX ⟨q,d1.uses.length,kk.re,kk.im⟩).toArray 180 (0,0))∧V.cell? ⟨K.c,4,none⟩=some (.slice A2.ca d1.calls.length A2.cc)∧V.cell? ⟨K.c,3,none⟩=some (.slice A2.ua d1.uses.length A2.uc)∧V.cell? ⟨Kb,4,none⟩=some (.complex .f64 kk.re kk.im)) ⟨Av,Nv,hSS⟩ ?_;clear hSS;rintro we ⟨hka,cG,hSS⟩;refine wpAnyH_ready (rs:= [15]) qh qg ?_;refine AllReadyH.cons rfl (fun KQ hK=> ?_) AllReadyH.nil;refine Mx caL ca1 rfl (.tmp 188) (.tmp 198) rfl Tryz.underlying112 HIC.1.1 HIC.1.2.1 HIC.1.2.2.1 HIC.1.2.2.2 rfl zi zi rfl rfl (HD.1.kp0 hka).calls (x:=(⟨q,d1.uses.length,kk.re,kk.im⟩:Xs)) ⟨_,cG⟩ (HD.1.kp0 hka).keep.size (Nat.le_trans HI1.1.2.1 HI1.1.2.2) ?_;rintro g cp wf ⟨hro,hkt,-,hk0⟩;refine hK.out _ _ (⟨Aa (hkt.at (HD.1.kp0 hka).row qg) 4,Aa (hkt.at (HD.1.kp0 hka).row qg) 3,Aa (hkt.at (hka.at HKb.1 qg) qg) 4⟩) (fun hSS=> ?_);clear hK;refine Gv ?_;refine jnc ?_;refine Ej ?_;refine Mo (i:=17) (fun c a' w'=>hR3 c _ _ _ (fun h=>h)) hSS ?_;refine Ej ?_;have r_c:=hkt.at (HD.1.kp0 hka).row qg;have lb:=Ad r_c;have b3:=Aa r_c 4;have v3:=Ab r_c 4;simp at b3;refine EY ?_
  refine hR1 _ _ (fun K' hK'=> ?_);have HQQ:=zh hK';clear hR1 hR3 hSS hK'
  go_simp
  refine HQQ.1 _ _ ?_;clear HQQ
  go_wp2_with fail
  go_meet
  have hgr:=fun W h1 h2=>(HD.1.kp0 hka).grewC (w3:=W) hK hro hkt hk0 h1 h2
  exact zmc
 obtain ⟨⟨A3,hd⟩,hs⟩:=hcut;replace HD:=zh hd;replace HB:=zh (hs.at HB.1 qg);replace HS:=zh (HS.1.trans hs);replace HKb:=zh (hs.at HKb.1 qg);clear hd hs l_c c3 y3 c4 y4 l_K x0 x1 x2 x3 x4 z0 z1 z2 z3 z4;generalize wc=wp at*
 go_upto_region 33 with fail
 obtain ⟨l_K,x0,x1,x2,x3,x4,z0,z1,z2,z3,z4⟩:=Bv HKb.1;have l_c:=HD.1.lt;have c3:=Aa HD.1.row 3;have y3:=Ab HD.1.row 3;simp at c3
 go_cut [] (fun W=>(∃A4,DK K A4 x s3 W)∧Bh wp W)
 case first=>
  refine Ck (n:=13) (S:=fun V=>V.cell? ⟨K.c,3,none⟩=some (.slice A3.ua d1.uses.length A3.uc)∧V.cell? ⟨Kb,4,none⟩=some (.complex .f64 kk.re kk.im)) (st:=111) (p:= .tmp 214) (v:= .tmp 212) qh qh qh rfl ⟨Aa (HD.1.kp0 (Ac.drew [] wp)).row 3,Aa ((Ac.drew [] wp).at HKb.1 qg) 4⟩ ?_;intro Rq hR1 hR3 hSS;refine WC ?_;replace HD:=zh (HD.1.kp0 (Ac.drew [] wp));replace HKb:=zh ((Ac.drew [] wp).at HKb.1 qg);have HKd:=zh (Ac.drew [] wp);clear l_c c3 y3 l_K x0 x1 x2 x3 x4 z0 z1 z2 z3 z4;obtain ⟨wd,hwd⟩:∃v,v=wp.drew:=⟨_,rfl⟩;rw [←hwd] at HD HKb HKd hSS⊢;clear hwd;refine VX ?_;refine Ej ?_;refine WB ?_;refine Ej ?_;refine YT ?_;refine Ej ?_;refine WK ?_;refine Ej ?_;refine ZA ?_;refine Ej ?_;refine VW ?_;refine Ej ?_;refine zkc ?_;refine Ej ?_;refine YY ?_;refine Ej ?_;refine jmc ?_;refine Ej ?_;refine XG ?_;refine AllReadyH.cons rfl (fun KQ hK=> ?_) AllReadyH.nil
  go_simp
  refine hK.out _ _ (⟨Aa (HD.1.kp0 Av).row 3,Aa (Ac.at (fp:= []) Av HKb.1 qg) 4⟩) (fun hSS=> ?_);clear hK;refine Gv ?_;refine Bw (fun V=>Ac [] wd V∧V.heap[wd.heap.size]? =some (.cells (RX ⟨q,0,kk.re,kk.im⟩).toArray 149 (0,0))∧V.cell? ⟨K.c,3,none⟩=some (.slice A3.ua d1.uses.length A3.uc)∧V.cell? ⟨Kb,4,none⟩=some (.complex .f64 kk.re kk.im)) ⟨Av,Nv,hSS⟩ ?_;clear hSS;rintro we ⟨hka,cG,hSS⟩;refine YP ?_;refine AllReadyH.cons rfl (fun KQ hK=> ?_) AllReadyH.nil;refine Mx usL us1 rfl (.tmp 206) (.tmp 211) rfl Tryz.underlying111 HIT.1.1 HIT.1.2.1 HIT.1.2.2.1 HIT.1.2.2.2 rfl zi zi rfl rfl (HD.1.kp0 hka).uses (x:=(⟨q,0,kk.re,kk.im⟩:Gq)) ⟨_,cG⟩ (HD.1.kp0 hka).keep.size HI1.1.2.2 ?_;rintro g cp wf ⟨hro,hkt,-,hk0⟩;refine hK.out _ _ (⟨Aa (hkt.at (HD.1.kp0 hka).row qg) 3,Aa (hkt.at (hka.at HKb.1 qg) qg) 4⟩) (fun hSS=> ?_);clear hK;refine Gv ?_;refine qlc ?_;refine Ej ?_;refine qmc ?_;refine Ej ?_;have r_c:=hkt.at (HD.1.kp0 hka).row qg;have lb:=Ad r_c;have b3:=Aa r_c 3;have v3:=Ab r_c 3;simp at b3;refine EY ?_;refine hR1 _ _ (fun K' hK'=> ?_);have HQQ:=zh hK';clear hR1 hR3 hSS hK'
  go_simp
  refine HQQ.1 _ _ ?_;clear HQQ
  go_wp2_with fail
  go_meet
  have hgr:=fun W h1 h2=>(HD.1.kp0 hka).grewU (w3:=W) hK hro hkt hk0 h1 h2
  rw [HUL.1.2];exact zmc
 obtain ⟨⟨A4,hd⟩,hs⟩:=hcut;replace HD:=zh hd;replace HB:=zh (hs.at HB.1 qg);replace HS:=zh (HS.1.trans hs);replace HKb:=zh (hs.at HKb.1 qg);clear hd hs l_c c3 y3 l_K x0 x1 x2 x3 x4 z0 z1 z2 z3 z4;generalize wc=wl at*
 obtain ⟨l_K,x0,x1,x2,x3,x4,z0,z1,z2,z3,z4⟩:=Bv HKb.1
 go_wp2_with fail
 refine (HREC.1 kk HSZ.1 _ _ _ _ _ _ HD.1 HI2.1 HN.1 HWf.1 HFl.1 HE1.1).mono ?_;rintro r w9 ⟨rfl,⟨A9,hd⟩,hs,hi9⟩;have HD9:=zh hd;have HS9:=zh (HS.1.trans hs);have HB9:=zh (hs.at HB.1 qg);have HI9:=zh hi9;clear hd hs hi9 l_K x0 x1 x2 x3 x4 z0 z1 z2 z3 z4
 go_wp2_with fail
 go_roundg f
 case measure=>omega
 case rel=>exact ⟨k+1,_,_,by first|rfl|(simp;done)|(simp;omega),by omega,by omega,HE2.1,HD9.1.kp0 Av,HI9.1,HS9.1.add Av,Ac.at (fp:= []) Av HB9.1 qg⟩):p:=h
theorem LS{K:Br}(hK:Ff K){A:DA}{x:DX}{st st':DS}{w:World}{fn N:Nat}(h:DK K A x st w)(hi:DI st)(hfn:x.fn=(fn:Int) -1)(hfl:fn≤K.g.funcs.length)(hrec:Xr K x fn N)(tx:ByteArray){m:Nat}(hm:flook K.g tx=m+1)(hml:m<K.g.funcs.length)(fm:Nat)(na:Option Addr)(nc re im:Nat)(al:Bool)(kids:List Af)(hkp:kids.length≤K.g.funcs[m].params.length)(hkd:Bc K.w0 (fun _=>True) kids (.slice na kids.length nc))(hks:Ar kids≤N)(hwf:Oy kids)(hfk:∀kk∈kids,∃kd lo,Dg K.g fn kd lo kk=none)(hek:Ee (Zl K.g fn (m+1) K.g.funcs[m].params kids) st=some st'):Calls Tryz.prog 86 #[.pointer (some ⟨K.c,0,none⟩),.agg #[.int .i64 19,.string tx,.float .f64 fm,.slice na kids.length nc,.complex .f64 re im],.bool al] w fun r w'=>r= .returned (.tuple #[])∧(∃A',DK K A' x st' w')∧Bh w w'∧DI st':=by
 have HD0:=zh h;have HI:=zh hi;have HE:=zh hek;have HREC:=zh hrec;have HKD:=zh hkd;have HKS:=zh hks;have HWK:=zh (fun kk (hm:kk∈kids)=>Kk hwf hm);have HFK:=zh hfk;have HFN:=zh hfn;have HM:=zh hm;have hfs:=hK.small;have hps:=hK.psmall _ (List.getElem_mem hml);obtain ⟨i149,hi149⟩:=AY;have HIT:=zh hi149;obtain ⟨i180,hi180⟩:=UM;have HIC:=zh hi180;clear h hi hek hrec hkd hks hwf hfk hfn hm hi149 hi180
 go_enter Tryz.func86,Tryz.ntmps86
 go_upto_region 13 with fail
 refine Bj (fun W=>Ac [] w W∧W.heap[w.heap.size]? =some (Gm 19 tx fm na kids.length nc re im)) ⟨Av,Nv⟩ ?_;rintro wq ⟨hka,hba⟩;have HB:=zh hba;have HS:=zh (KT.of0 (ts:=JK) hka);have HD:=zh (HD0.1.kp0 hka);clear hka hba
 go_wp2_with fail
 go_loopg [7] (kids.length+1) (fun g j wr=>GaC K x fn m K.g.funcs[m].params kids st' w w.heap.size (Gm 19 tx fm na kids.length nc re im) g j wr)
 case atStart=>exact ZQ
 clear HD HI HS HB HE;obtain ⟨k,A1,s1,rfl,hk1,hk2,he,hd,hi,hs,hb⟩:=hrel;have HD:=zh hd;have HS:=zh hs;have HB:=zh hb;have HI:=zh hi;have HE:=zh he;clear hd hs hb hi he;obtain ⟨l_B,x0,x1,x2,x3,x4,z0,z1,z2,z3,z4⟩:=Bv HB.1
 by_cases hlt:k<kids.length
 ·cases gk with
  |zero=>omega
  | succ f=>
   have hltp:k<K.g.funcs[m].params.length:=by omega
   obtain ⟨g3,o3,fm3,na3,nc3,hna3,d0,d1,d2,d3,d4,hn,l2⟩:=Iy HD.1.keep HKD.1 hlt;subst hna3;have HN:=zh hn;have HSZ:=zh (Nat.le_trans (Hb (List.getElem_mem hlt)) HKS.1);have HWf:=zh (HWK.1 _ (List.getElem_mem hlt));have HFl:=zh (HFK.1 _ (List.getElem_mem hlt));have h:=HE.1;rw [List.drop_eq_getElem_cons hlt,List.drop_eq_getElem_cons hltp,Zl,Cl,Option.bind_eq_some_iff] at h;obtain ⟨s2,h1,h2⟩:=h;have HE2:=zh h2;have HRT:=zh (Vq hml (List.getElem_mem hltp));clear hn h2 HE;generalize hkk:kids[k]=kk at d0 d1 d2 d3 d4 HN HSZ HWf HFl h1
   go_wp2_with fail
   refine jdc ?_;rintro wa ⟨hka,hba⟩;have HKb:=zh hba;replace HB:=zh (hka.at HB.1 qg);replace HD:=zh (HD.1.kp0 hka);replace HS:=zh (HS.1.add hka);obtain ⟨Kb,hKb⟩:∃b,b=wr.heap.size:=⟨_,rfl⟩;rw [←hKb] at HKb⊢;clear hka hba hKb l_B x0 x1 x2 x3 x4 z0 z1 z2 z3 z4 d0 d1 d2 d3 d4 l2 hkk;refine (DO hK HD.1 HM.1).mono ?_;rintro r wb ⟨rfl,hk⟩;replace HD:=zh (HD.1.kp0 hk);replace HS:=zh (HS.1.add hk);replace HB:=zh (hk.at HB.1 qg);replace HKb:=zh (hk.at HKb.1 qg);clear hk;obtain ⟨gf,of_,pa,pc,b0,b1,b2,b3,b4,hfa,-,e1,-,-,-,-,-,-,hp,-,lf⟩:=HD.1.func hK hml;obtain ⟨gp,op,hpa,ep⟩:=Rx HD.1.keep hp hltp;subst hpa;have c1:=Aa HD.1.row 1;have y1:=Ab HD.1.row 1;have l_c:=HD.1.lt;simp at c1;rw [hfa] at c1;obtain ⟨l_K,x0,x1,x2,x3,x4,z0,z1,z2,z3,z4⟩:=Bv HKb.1;have hmm:(m:Int)<(K.g.funcs.length:Int):=by omega
   have hkk':(k:Int)<(K.g.funcs[m].params.length:Int):=by omega
   clear hp;generalize hpv:K.g.funcs[m].params[k]=pv at*
   go_wp2_with fail
   split at h1
   ·rename_i h4;have HK4:=zh h4
    have HEV:Hd (It s1 (.link (Du K.g fn kk.name) (m+1,pv) kk.re kk.im)=some s2):=zh (by
     rw [Do] at h1
     cases hq:It s1 (.link (Du K.g fn kk.name) (m+1,pv) kk.re kk.im) with
     |none=>rw [hq] at h1;cases h1
     |some s=>rw [hq] at h1;exact h1)
    clear h1;exact Abc
   rename_i h4;rw [Do,Option.bind_eq_some_iff] at h1;obtain ⟨s3,h5,h6⟩:=h1;have HEV:=zh h5;have HE1:Hd (Ee (EZ K.g fn false kk) s3=some s2):=zh (by rw [Pv];exact h6);have h4b:(kk.kind==4)=false:=beq_false_of_ne h4;clear h4 h5 h6;exact Abd
 have hke:k=kids.length:=by omega
 subst hke;have hst:s1=st':=by have h:=HE.1;rw [List.drop_length] at h;cases hps:(K.g.funcs[m].params.drop kids.length)<;>rw [hps,Zl] at h<;>cases h<;>rfl
 exact zfe
def JR(K:Ba)(rec:Cu)(kids:List Af)(st':NS)(T0:Nat→Prop)(w:World)(B:Nat)(ob:Obj)(g:Nat)(j:Value)(W:World):Prop:=
 ∃k:Nat,j= .int .i64 k∧k≤kids.length∧g+k=kids.length+1∧∃st T ua uc,Lj rec (kids.drop k) st=some st'∧CK K T ua uc st W∧Ak K T0 T w W∧W.heap[B]? =some ob∧Fu K T B
theorem jsd{p:Prop}(h:p:=by
 subst hke;rw [List.drop_length,Ga] at hcf;obtain rfl:st2=st':=by simpa using hcf
 clear hcf;obtain ⟨l_c,l_mf,l_ms,l_mn⟩:=HCr.1.lt;have l_B:=Ad RB.1
 go_wp2_with fail
 refine VG (f:=78) (args:= #[.pointer (some ⟨K.c,0,none⟩)]) (v:= .tuple #[]) (G:=fun W'=>∃T' ua' uc',CK K T' ua' uc' ({st2 with loops:=st2.loops -1}) W'∧Ak K T T' w W') (fun W=>Ac [] wr W) jg rfl (fun _=>by simp [go_sem]) (fun w51 hW=> ?_) (fun w51 hW=> ?_) (fun w51 hW=> ?_)
 ·have Kw51:Ac [] wr w51:=hW;have Rw51_B:=zh (Kw51.at RB.1 qg);have HCw51:=zh (HCr.1.kp0 Kw51);have HSw51:=zh (HSr.1.loc Kw51 qg);clear Kw51 l_c l_B l_mf l_ms l_mn RB HCr HSr;refine (UH hK HCw51.1 jh _).mono ?_;rintro r u' w512 ⟨rfl,T9,ua9,uc9,rfl,hc,hs⟩;exact jbd
 ·exact Le
 obtain ⟨T9,ua9,uc9,hc,hs⟩:=hW;exact ⟨_,_,_,rfl,hc,hs⟩):p:=h
def RL(K:Ba)(rec:Cu)(lp:Bool)(kids:List Af)(st':NS)(T0:Nat→Prop)(w:World)(B:Nat)(ob:Obj)(g:Nat)(j:Value)(W:World):Prop:=
 ∃k:Nat,j= .int .i64 k∧k≤kids.length∧g+k=kids.length+1∧∃st T ua uc,Ga rec lp k (kids.drop k) st=some st'∧CK K T ua uc st W∧Ak K T0 T w W∧W.heap[B]? =some ob∧Fu K T B
theorem VG{P:Program}{fn:Func}{R:Ending→World→Prop}{a:Act}{W:World}{v:Value}{f:FuncId}{args:Array Value}{G:World→Prop}(F:World→Prop)(hF:F W)(hd:a.defers= [{target:= .fn (.func f) #[],args:=args}])(hi:∀W',(invoke (.fn (.func f) #[]) args).run P W'= .ok (.enter f args) W')(hc:∀W',F W'→CallsD P f args .returning W' fun r u' w'=>u'= .returning∧r= .returned (.tuple #[])∧G w')(hr:∀W',G W'→(results fn a.tmps).run P W'= .ok v W')(hR:∀W',G W'→R (.returned v) W'):bodyPostD P fn R .normal a W:=by
 show Leaves P fn a.tmps R a.defers .returning W;rw [hd];refine leaves_cons (f:=f) (args:=args) qg (hi W) ((hc W hF).mono ?_);rintro e u' w' ⟨rfl,rfl,hg⟩;exact ⟨v,hr w' hg,hR w' hg⟩
theorem UH{K:Ba}(hK:Dp K){T:Nat→Prop}{ua:Option Addr}{uc:Nat}{st:NS}{w:World}(h:CK K T ua uc st w)(hl: -1000000<st.loops)(u:FrameMode):CallsD Tryz.prog 78 #[.pointer (some ⟨K.c,0,none⟩)] u w fun r u' w'=>u'=u∧∃T' ua' uc',r= .returned (.tuple #[])∧CK K T' ua' uc' {st with loops:=st.loops -1} w'∧Ak K T T' w w':=by
 have hlob: -1000000≤st.loops -1∧st.loops -1≤1000000:=by have:=h.loops;omega
 have hb2:st.loops≤1000000:=h.loops.2;have HC0:=zh h;have HS0:=zh (Ak.refl K T w);clear h
 go_enter_d Tryz.func78,Tryz.ntmps78
 obtain ⟨l_c,xc⟩:=Cp HC0.1.row;obtain ⟨-,l_mf,l_ms,l_mn⟩:=HC0.1.lt
 go_wp2_with fail
 refine Cq (v:= .tuple #[]) (fun W=>Ac [K.c] w W∧W.heap[K.c]? =some (.cells #[.slice K.ra K.g.rules.length K.rc,.slice K.fa K.g.funcs.length K.fc,.map (some K.mf),.int .i64 st.fn,.int .i64 st.rule,.int .i64 (st.loops -1),.slice ua st.uses.length uc,.map (some K.ms),.map (some K.mn),.complex .f64 st.re st.im,.int .i64 st.e] 70 (0,0))) ⟨jg,(zc HC0.1.row l_c)⟩ (fun w1 hW=> ?_) rfl (fun w1 hW=> ?_)
 ·obtain ⟨Kw1,cw1_c⟩:=hW;exact Le
 obtain ⟨Kw1,cw1_c⟩:=hW;have HCw1:Hd (CK K T ua uc ({st with loops:=st.loops -1}) w1):=zh (HC0.1.upd hK Kw1 cw1_c qg qg qg qg qg rfl rfl rfl HC0.1.fn hlob);have HSw1:=zh (HS0.1.loc Kw1 XJ);clear Kw1 cw1_c l_c xc l_mf l_ms l_mn HC0 HS0;exact ⟨_,_,_,rfl,HCw1.1,HSw1.1⟩
theorem ofX{w:World}{S:Nat→Prop}{n:Af}{v:Value}(_:Hd (Au w S n v))(g:Ah)(st:NS)(tx:ByteArray):∃x,x=Iv g (Bi g st n) tx:=⟨_,rfl⟩
theorem ulX{g:Ah}{st:NS}{tx:ByteArray}{oo:Ae×NS}(h:oo=Iv g st tx):st.uses.length=oo.2.uses.length:=by rw [h,Qp]
theorem Zt{p p':Nat→Bool}(h:∀k,p' k=true→p k=true){i:Nat}(hp:p i=true)(hp':p' i=false):∀l:List Nat,i∈l→l.countP p'<l.countP p
 | [],hm=>by cases hm
 | x::l,hm=>by
   have hle:l.countP p'≤l.countP p:=List.countP_mono_left fun k _ hk=>h k hk
   rw [List.countP_cons,List.countP_cons]
   rcases List.mem_cons.1 hm with rfl|hm
   ·rw [hp,hp'];simp;omega
   have:=Zt h hp hp' l hm
   by_cases hx:p' x=true
   ·rw [hx,h x hx];omega
   simp only [Bool.not_eq_true] at hx;rw [hx];simp;split<;>omega
def We(n:Nat)(L:Array Bool):Nat:=(List.range n).countP fun i=> !L.getD i true
theorem Yf{P:Program}{md:Region.Mode}{ops:Array Oper}{Q:Exit→Act→World→Prop}(I:Array Bool→Act→World→Prop)
  (hdone:∀L a w,I L a w→Region.ready md ops L= []→Q .normal a w)
  (hstep:∀L a w,I L a w→∀i∈Region.ready md ops L,wpOp P ops Q i (I (L.setIfInBounds i true)) a w):
  ∀(fuel:Nat) (L:Array Bool) (a:Act) (w:World),We ops.size L≤fuel→I L a w→wpAny P md ops Q fuel L a w
 | 0,L,a,w,hn,h=>by
   have hr:Region.ready md ops L= []:=by
    rw [List.eq_nil_iff_forall_not_mem];intro i hi;have h1:=(mem_ready.1 hi).1;have h2:i∈List.range ops.size:=by unfold Region.ready at hi;exact (List.mem_filter.1 hi).1
    have h0:We ops.size L=0:=by omega
    unfold We at h0;rw [List.countP_eq_zero] at h0;exact absurd (h0 i h2) (by rw [h1];simp)
   exact ⟨hr,hdone L a w h hr⟩
 | fuel+1,L,a,w,hn,h=>by
   refine ⟨fun hr=>hdone L a w h hr,fun i hi=>wpOp_mono (fun a' w' h'=>Yf I hdone hstep fuel _ a' w' ?_ h') (hstep L a w h i hi)⟩;have h1:=(mem_ready.1 hi).1;have h2:i∈List.range ops.size:=by unfold Region.ready at hi;exact (List.mem_filter.1 hi).1
   have hlt:We ops.size (L.setIfInBounds i true)<We ops.size L:=by
    unfold We;refine Zt (i:=i) (fun k hk=> ?_) (by rw [h1];rfl) ?_ _ h2
    ·by_cases hki:k=i
     ·subst hki;rw [h1];rfl
     simp only [Array.getD_eq_getD_getElem?,Array.getElem?_setIfInBounds,Ne.symm hki,if_false] at hk
     simpa [Array.getD_eq_getD_getElem?] using hk
    have hL:i<L.size:=by
     by_cases hl:i<L.size
     ·exact hl
     simp [Array.getD_eq_getD_getElem?,Array.getElem?_eq_none (Nat.not_lt.1 hl)] at h1
    simp [Array.getD_eq_getD_getElem?,hL]
   omega
theorem Xu{P:Program}{ops:Array Oper}{Q:Exit→Act→World→Prop}{id:Nat}{a:Act}{w:World}(hm:P.follows .mixedOrders=true)(I:Array Bool→Act→World→Prop)
  (h0:I (Array.replicate ops.size false) a w.drew)
  (hdone:∀L a w,I L a w→Region.ready .any ops L= []→Q .normal a w)
  (hstep:∀L a w,I L a w→∀i∈Region.ready .any ops L,wpOp P ops Q i (I (L.setIfInBounds i true)) a w):(Code.region id ops true).wp P Q a w:=
 wp_region_any hm (Yf I hdone hstep _ _ _ _ (by unfold We;exact Nat.le_trans (List.countP_le_length) qg) h0)
theorem If{P:Program}{ops:Array Oper}{Q:Exit→Act→World→Prop}{i:Nat}{K:Act→World→Prop}{a:Act}{w w':World}{o:Oper}{v:Value}(hi:ops[i]? =some o)(hg:o.guard=none)(hrun:(execOp a.eval o).run P w= .ok (.value v) w')(h:K (a.put o.dst v) w'):wpOp P ops Q i K a w:=by
 unfold wpOp;rw [hi];simp only [Region.wanted,hg,if_true]
 left
 unfold Oper.wp;rw [hrun];exact h
theorem Ye{P:Program}{ops:Array Oper}{Q:Exit→Act→World→Prop}{i:Nat}{K:Act→World→Prop}{a:Act}{w w':World}{o:Oper}(hi:ops[i]? =some o)(hg:o.guard=none)(hd:o.dst=none)(hrun:(execOp a.eval o).run P w= .ok .skip w')(h:K a w'):wpOp P ops Q i K a w:=by
 unfold wpOp;rw [hi];simp only [Region.wanted,hg,if_true]
 left
 unfold Oper.wp;rw [hrun];show K (a.put o.dst undef) w';rw [hd];exact h
theorem Rs{P:Program}{ops:Array Oper}{Q:Exit→Act→World→Prop}{i:Nat}{K:Act→World→Prop}{a:Act}{w:World}{o:Oper}{f:FuncId}{vals:Array Value}(hi:ops[i]? =some o)(hg:o.guard=none)(hrun:(execOp a.eval o).run P w= .ok (.enter f vals) w){R:Value→World→Prop}(hc:Calls P f vals w fun e w'=>∃v,e= .returned v∧R v w')(hK:∀v w',R v w'→K (a.put o.dst v) w'):wpOp P ops Q i K a w:=by
 unfold wpOp;rw [hi];simp only [Region.wanted,hg,if_true]
 left
 unfold Oper.wp;rw [hrun,Oper.upon_enter];exact zkb
end Go.Proofs.YtkfillfkbhbbjaaGreatDoor
