/- DWu, DX0, DWn, DX1, DX2, DX3. -/
import Derived.Test.YtkfillfkbhbbjaaGreatDoorDWq
import Derived.Test.YtkfillfkbhbbjaaGreatDoorRegI
import Derived.Test.YtkfillfkbhbbjaaGreatDoorBltW
import Derived.Test.YtkfillfkbhbbjaaGreatDoorNodJ
import Derived.Test.YtkfillfkbhbbjaaGreatDoorDLawB
import Derived.Test.YtkfillfkbhbbjaaGreatDoorRegS
import Derived.Deep.Light
import Derived.Laws.OwnMore
set_option maxRecDepth 100000
set_option maxHeartbeats 4000000
set_option linter.unusedSimpArgs false
set_option linter.unusedVariables false
namespace Go.Proofs.YtkfillfkbhbbjaaGreatDoor
open Go.RowKit
theorem JJ(g:Ah)(fn:Nat)(tx:ByteArray)(h1:tx≠Wc)(h2:tx≠Qq)(l:List Af):Xt g fn (Gi tx) 0 l=Nq g fn l:=by
 rw [Gi,if_neg h1,if_neg h2];exact EB g fn _ zi l 0
theorem DN{K:Br}(hK:Ff K){x:DX}{fn:Nat}(hfn:x.fn=(fn:Int) -1)(hfl:fn≤K.g.funcs.length):∀N,N≤1000000→Xr K x fn N:=by
 intro N
 induction N with
 |zero=>intro _ n hn;have:=Ci n;omega
 | succ N ih=>
  intro hN n hn A st st' w v al h hi hnr hwf hft hev;have hrec:=ih jh;obtain ⟨k,nm,num,kids,re,im⟩:=n;obtain ⟨fm,na,nc,rfl,hkd⟩:=hnr.kids;obtain ⟨kd,lo,hft⟩:=hft;rw [Dg] at hft;obtain ⟨hfb,hfk⟩:=Option.or_eq_none' hft;replace hfk:∀kk∈kids,∃kd lo,Dg K.g fn kd lo kk=none:=fun kk hm=>⟨_,_,Wz hfk hm⟩
  rw [Yg] at hwf;rw [Bo] at hn;have hks:Ar kids≤N:=by omega
  have hkl:kids.length≤1000000:=by have:=Jl kids;omega
  change Calls Tryz.prog 86 #[.pointer (some ⟨K.c,0,none⟩),.agg #[.int .i64 k,.string nm,.float .f64 fm,.slice na kids.length nc,.complex .f64 re im],.bool al] w _
  change Bc K.w0 (fun _=>True) kids (.slice na kids.length nc) at hkd
  by_cases h4:k=4
  ·subst h4;have hnil:=hwf.1 rfl;subst hnil;refine LQ hK h hi hfn hfl nm fm na nc re im al ?_;rw [EZ] at hev
   cases al with
   |true=>rw [if_pos ⟨rfl,rfl⟩,Do] at hev;cases hq:It st (.see (Du K.g fn nm) re im)<;>rw [if_pos rfl]<;>(change (It st (.see (Du K.g fn nm) re im)).bind _=_ at hev;rw [hq] at hev⊢)<;>exact hev
   |false=>
    rw [if_neg qg,Xd,if_neg zi,if_neg zi,AM,if_pos rfl,Nq,List.append_nil,Do] at hev;rw [if_neg qg]
    cases hq:It st (.use (Du K.g fn nm) false re im)<;>rw [hq] at hev<;>exact hev
  rw [EZ,if_neg (fun h=>h4 h.2),Xd] at hev
  by_cases h19:k=19
  ·subst h19;rw [if_pos rfl] at hev;rw [Iq,if_neg zi,if_pos rfl] at hfb
   split at hfb
   ·cases hfb
   rename_i h0
   split at hfb
   ·cases hfb
   rename_i hl;obtain ⟨m,hm⟩:∃m,flook K.g nm=m+1:=⟨flook K.g nm -1,by omega⟩;have hml:=DT hm;have hp:Bk K.g (m+1)=K.g.funcs[m].params:=by simp [Bk,hml]
   rw [hm,hp] at hev hl;exact LS hK h hi hfn hfl hrec nm hm hml fm na nc re im al kids jh hkd hks hwf.2 hfk hev
  rw [if_neg h19] at hev
  by_cases h20:k=20
  ·subst h20;rw [if_pos rfl] at hev;rw [Iq,if_neg zi,if_neg zi,if_pos rfl] at hfb
   by_cases hl:nm=Hf
   ·subst hl
    split at hfb
    ·cases hfb
    rename_i hc
    have hc2:kids.length≤1:=by
     have:(Bz Hf).2=1:=by decide+kernel
     omega
    refine PQ hK h hi hrec fm na nc re im al kids hkl hkd hks hwf.2 hfk ?_
    match kids,hc2,hev with
    | [],_,hev=>
     rw [if_neg zi] at hev;exact hev
    | [q],_,hev=>
     rw [List.flatMap_cons,List.flatMap_nil,List.append_nil]
     by_cases hq:q.kind=4
     ·rw [if_pos (by simp [Xz,hq])] at hev;rw [EZ,if_pos ⟨rfl,hq⟩];exact hev
     rw [if_neg (by simp [Xz,hq]),JJ K.g fn Hf zi zi,Nq,Nq,List.append_nil] at hev;rw [EZ,if_neg (fun h=>hq h.2)];exact hev
   have hlb:¬Xz nm kids=true:=by
    intro hx
    match kids,hx with
    | [q],hx=>simp [Xz] at hx;exact hl hx.1
   rw [if_neg hlb] at hev
   by_cases hs:nm=Wc
   ·subst hs;exact Wx hK h hi hfn hfl hrec Wc 1 (.inl ⟨rfl,rfl⟩) fm na nc re im al kids hkl hkd hks hwf.2 hfk hev
   by_cases hx:nm=Qq
   ·subst hx;exact Wx hK h hi hfn hfl hrec Qq 0 (.inr ⟨rfl,rfl⟩) fm na nc re im al kids hkl hkd hks hwf.2 hfk hev
   rw [JJ K.g fn nm hs hx] at hev;exact DM hK h hi hrec nm (Ik hs) (Ik hx) (Ik hl) fm na nc re im al kids hkl hkd hks hwf.2 hfk hev
  rw [if_neg h20,AM,if_neg h4] at hev
  by_cases ha:k=5∨k=11∨k=41∨k=35
  ·rw [if_pos ha,List.cons_append,List.nil_append,Do,Option.bind_eq_some_iff] at hev;obtain ⟨s1,he,hek⟩:=hev;refine PR hK h hi hfn hfl hrec k (beq_false_of_ne h4) (beq_false_of_ne h19) (beq_false_of_ne h20) ?_ nm fm na nc re im al kids hkl hkd hks hwf.2 hfk he hek
   rcases ha with rfl|rfl|rfl|rfl<;>simp
  rw [if_neg ha,List.nil_append] at hev;simp only [not_or] at ha;exact LR hK h hi hrec k (beq_false_of_ne h4) (beq_false_of_ne ha.1) (beq_false_of_ne ha.2.1) (beq_false_of_ne ha.2.2.1) (beq_false_of_ne ha.2.2.2) (beq_false_of_ne h19) (beq_false_of_ne h20) nm fm na nc re im al kids hkl hkd hks hwf.2 hfk hev
def DU(st:DS):Prop:=∀u∈st.uses,u.how≠3→0≤u.thing
theorem Gp{st st':DS}{t:Ae}{i:Nat}(h:Um st t=some (i,st')):st'.uses=st.uses:=by obtain ⟨th,rfl⟩:=Sw h;rfl
theorem DU.use{st st1 st':DS}{u:Gq}(h:DU st)(h1:st1.uses=st.uses)(hu:Jx st1 u=some st')(h0:u.how≠3→0≤u.thing):DU st':=by
 exact zoe
theorem DU.ev{st st':DS}{e:Ev}(h:DU st)(he:It st e=some st'):DU st':=by
 cases e with
 |see t re im=>
  exact jse
 |use t arr re im=>
  exact jse
 |kid t re im=>
  simp only [It,Option.bind_eq_some_iff] at he;obtain ⟨⟨i,d1⟩,h1,h2⟩:=he;have h3:DU d1:=by unfold DU;rw [Gp h1];exact h
  exact h3.use (by rfl) h2 fun _=>Int.natCast_nonneg _
 |bad re im=>exact h.use rfl he fun h=>absurd rfl h
 |link a p re im=>
  simp only [It,Option.bind_eq_some_iff,Option.some.injEq] at he;obtain ⟨⟨i,d1⟩,h1,⟨j,d2⟩,h2,d3,h3,x,-,y,-,rfl⟩:=he;exact h.use (st':=d3) ((Gp h2).trans (Gp h1)) h3 fun _=>Int.natCast_nonneg _
 |reg t=>
  simp only [It,Option.map_eq_some_iff] at he;obtain ⟨⟨i,d1⟩,h1,rfl⟩:=he;unfold DU;rw [Gp h1];exact h
theorem DU.evs:∀{l:List Ev} {st st':DS},DU st→Ee l st=some st'→DU st'
 | [],st,st',h,he=>by rw [Kc] at he;cases he;exact h
 | e::l,st,st',h,he=>by
   exact qne
theorem DI.evs:∀{l:List Ev} {st st':DS},DI st→Ee l st=some st'→DI st'
 | [],st,st',h,he=>by rw [Kc] at he;cases he;exact h
 | e::l,st,st',h,he=>by
   exact qne
theorem WS(g:Ah)(s:ByteArray):Du g 0 s=(0,s):=by rw [Du,if_neg (fun h=>absurd h.1 jh)]
theorem ED{st:DS}{u:Gq}{l:List Gq}{k kf:List Int}(h:Fq st (u::l) k=some kf)(hu:u.how≠3→0≤u.thing):(u.how≠1∧u.how≠2∧Fq st l k=some kf)∨((u.how=1∨u.how=2)∧∃(t r:Nat) (v:Int),u.thing=(t:Int)∧Jb st t=some r∧k[r]? =some v∧Fq st l (if v=0 then k.set r u.how else k)=some kf):=by
 rw [Fq] at h
 split at h
 ·rename_i hh;simp only [Option.bind_eq_some_iff] at h;obtain ⟨r,h1,v,h2,h3⟩:=h;have h0:=hu jh;exact .inr ⟨hh,u.thing.toNat,r,v,by omega,h1,h2,h3⟩
 rename_i hh;simp only [not_or] at hh;exact .inl ⟨hh.1,hh.2,h⟩
theorem QC{st:DS}{k:List Int}{i:Nat}{u:Gq}{b:Bool}(h:Nt st k i u=some b)(hu:u.how≠3→0≤u.thing):(u.how=3∧b=true)∨(u.how≠3∧0<u.how∧∃(t r:Nat) (v:Int),u.thing=(t:Int)∧Jb st t=some r∧k[r]? =some v∧b=(v !=u.how))∨(¬0<u.how∧u.how≠3∧Bb st i=true∧∃(t r:Nat) (v:Int),u.thing=(t:Int)∧Jb st t=some r∧k[r]? =some v∧b=(v==2))∨(¬0<u.how∧u.how≠3∧Bb st i=false∧b=false):=by
 unfold Nt at h
 split at h
 ·rename_i h3;exact .inl ⟨h3,by simpa using h.symm⟩
 rename_i h3;have h0:=hu h3
 split at h
 ·rename_i hp;simp only [Option.bind_eq_some_iff,Option.map_eq_some_iff] at h;obtain ⟨r,h1,v,h2,h4⟩:=h;exact .inr (.inl ⟨h3,hp,u.thing.toNat,r,v,by omega,h1,h2,h4.symm⟩)
 rename_i hp
 split at h
 ·rename_i hh;simp only [Option.bind_eq_some_iff,Option.map_eq_some_iff] at h;obtain ⟨r,h1,v,h2,h4⟩:=h;exact .inr (.inr (.inl ⟨hp,h3,hh,u.thing.toNat,r,v,by omega,h1,h2,h4.symm⟩))
 rename_i hh;exact .inr (.inr (.inr ⟨hp,h3,by simpa using hh,by simpa using h.symm⟩))
theorem Vm{l:List Cy}{r:Cy}(h:r∈l):Ar r.pats+Bo r.body≤Fs l:=by
 induction l with
 |nil=>cases h
 |cons x l ih=>
  rw [Fs]
  rcases List.mem_cons.1 h with rfl|h
  ·omega
  have:=ih h;omega
theorem DQ{l:List Az}{f:Az}(h:f∈l):Bo f.body≤In l:=by
 induction l with
 |nil=>cases h
 |cons x l ih=>
  rw [In]
  rcases List.mem_cons.1 h with rfl|h
  ·omega
  have:=ih h;omega
theorem RF{K:Br}(hK:Ff K){A:DA}{x:DX}{st:DS}{w:World}(h:DK K A x st w)(hk7:x.kind≤7)(hl0:x.loops=0)(hkinds:∀r∈K.g.rules,r.kind≤7)(hsz:Fs K.g.rules+In K.g.funcs≤400000):Calls Tryz.prog 48 #[.pointer (some ⟨K.c,0,none⟩)] w fun r w'=>r= .returned (.tuple #[])∧(∃y,DK K A y st w'∧y.E=(Ce x (Qw K.g)).E∧y.kind≤7∧y.loops=0)∧Bh w w':=by
 have HD0:=zh h;have HW:=zh (fun fn=>BX hK st fn 900000 (Nat.le_refl _));have HSZ:=zh hsz;have HKI:=zh hkinds;have HK7:=zh hk7;have hrs:=hK.rsmall;have hfs:=hK.small;obtain ⟨e,he⟩:∃e,e=(Ce x (Qw K.g)).E:=⟨_,rfl⟩
 have hE0:(Ce (Ce {x with fn:= -1} (Mi K.g K.g.rules)) (Ip K.g 0 K.g.funcs)).E=e:=by
  have hok:Cz (Mi K.g K.g.rules):=by
   have:∀l,Cz (Mi K.g l):=by
    intro l
    induction l with
    |nil=>exact Cz.none
    |cons r l ih=>exact ((Om _ _ _ _ _ _ _).or (Kr _ _ _ _ _)).or ih
   exact this _
  rw [he,Qw,Gg hok];exact Ie (Ie (by rfl) _) _
 rw [←he];clear h he hsz hkinds hk7;obtain ⟨e1,he1⟩:∃e,e=(Ce {x with fn:= -1} (Mi K.g K.g.rules)).E:=⟨_,rfl⟩;have HE1:=zh he1.symm;have HE:Hd (∀y:DX,y.E=e1→(Ce y (Ip K.g 0 K.g.funcs)).E=e):=zh fun y hy=>(Ie (hy.trans he1) _).trans hE0
 clear he1 hE0
 go_enter Tryz.func48,Tryz.ntmps48
 obtain ⟨l_c,c0,c1,c2,c3,c4,c5,c6,c7,c8,c9,y0,y1,y2,y3,y4,y5,y6,y7,y8,y9⟩:=Ke HD0.1.row;clear c0 c1 c2 c3 c4 c5 c6 c8 c9 y0 y1 y2 y3 y4 y5 y6 y8 y9
 go_wp2_with fail
 refine Bj (fun W=>Ac [K.c] w W∧W.heap[K.c]? =some (dC K A {x with fn:= -1} st)) ⟨Av,Kj HD0.1.row⟩ ?_;rintro wq ⟨hk1,hr1⟩;have HD:=zh (HD0.1.upd hK hk1 hr1);have HS:=zh (HD0.1.step hk1);clear hk1 hr1 l_c c7 y7
 go_loopg [2] (K.g.rules.length+1) (fun g j wr=>AlR K A st e1 w g j wr)
 case atStart=>exact ⟨0,_,rfl,Nat.zero_le _,rfl,HE1.1,rfl,HK7.1,hl0,HD.1,HS.1⟩
 clear HD HS HE1;obtain ⟨k,y,rfl,hk1,hk2,hey,hfn,hk7,hl,hd,hs⟩:=hrel;have HD:=zh hd;have HS:=zh hs;have HEY:=zh hey;have HFN:=zh hfn;have HY7:=zh hk7;have HYL:=zh hl;clear hd hs hey hfn hk7 hl;obtain ⟨l_c,c0,c1,c2,c3,c4,c5,c6,c7,c8,c9,y0,y1,y2,y3,y4,y5,y6,y7,y8,y9⟩:=Ke HD.1.row;clear c2 c3 c4 c5 c6 c7 c9 y2 y3 y4 y5 y6 y7 y9
 by_cases hlt:k<K.g.rules.length
 ·cases gk with
  |zero=>omega
  | succ f=>
   obtain ⟨g2,o2,pa,pc,bt,bm,ba,bl,bc,br,bi,hra,d0,d2,d3,d4,d5,d6,d7,hkp,hkb,l2⟩:=HD.1.rule hK hlt;have HKP:=zh hkp;have HKB:=zh hkb;have hts:=hK.tsmall _ (List.getElem_mem hlt);have HRK:=zh (HKI.1 _ (List.getElem_mem hlt));have HRS:=zh (Vm (List.getElem_mem hlt))
   have hE2:(Ce (Ce (Ce {y with kind:=K.g.rules[k].kind} (Cg K.g 0 K.g.rules[k].kind 0 false 0 K.g.rules[k].pats)) (Dg K.g 0 K.g.rules[k].kind 0 K.g.rules[k].body)) (Mi K.g (K.g.rules.drop (k+1)))).E=e1:=by
    have h:=HEY.1;rw [List.drop_eq_getElem_cons hlt,Mi,Gg ((Om _ _ _ _ _ _ _).or (Kr _ _ _ _ _)),Gg (Om _ _ _ _ _ _ _)] at h;rw [←h];exact Ie (Ie (Ie (by rfl:({y with kind:=K.g.rules[k].kind}:DX).E=y.E) _) _) _
   rw [hra] at c0;clear hkp hkb HEY;generalize hq:K.g.rules[k]=q at*
   obtain ⟨e2,he2⟩:∃e,e=(Ce {y with kind:=q.kind} (Cg K.g 0 q.kind 0 false 0 q.pats)).E:=⟨_,rfl⟩;have HE2:=zh he2.symm;have HE3:Hd (∀z:DX,z.E=e2→(Ce (Ce z (Dg K.g 0 q.kind 0 q.body)) (Mi K.g (K.g.rules.drop (k+1)))).E=e1):=zh fun z hz=>(Ie (Ie (hz.trans he2) _) _).trans hE2
   clear he2 hE2
   go_wp2_with fail
   refine Bj (fun W=>Ac [K.c] wr W∧W.heap[K.c]? =some (dC K A {y with kind:=q.kind} st)) ⟨Av,Kj HD.1.row⟩ ?_;rintro wq ⟨hk3,hr3⟩;replace HS:=zh (HS.1.trans (HD.1.step hk3));replace HD:=zh (HD.1.upd hK hk3 hr3);clear hk3 hr3 l_c c0 c1 c8 y0 y1 y8 d0 d2 d3 d4 d5 d6 d7 l2
   go_loopg [3] (q.pats.length+1) (fun g j wr=>AlP K A st q.pats q.kind e2 w g j wr)
   case atStart=>exact ⟨0,_,rfl,Nat.zero_le _,rfl,HE2.1,HFN.1,rfl,HYL.1,HD.1,HS.1⟩
   clear HD HS HE2;obtain ⟨k',y',rfl,hk1',hk2',hey',hfn',hk7',hl',hd',hs'⟩:=hrel;have HD:=zh hd';have HS:=zh hs';have HEY:=zh hey';have HFN':=zh hfn';have HYK:=zh hk7';have HYL':=zh hl';clear hd' hs' hey' hfn' hk7' hl';obtain ⟨l_c,c0,c1,c2,c3,c4,c5,c6,c7,c8,c9,y0,y1,y2,y3,y4,y5,y6,y7,y8,y9⟩:=Ke HD.1.row;clear c1 c2 c3 c4 c5 c6 c7 c8 c9 y1 y2 y3 y4 y5 y6 y7 y8 y9;obtain ⟨g2',o2',pa',pc',bt',bm',ba',bl',bc',br',bi',hra',d0,d2,d3,d4,d5,d6,d7,hkp,hkb,l2⟩:=HD.1.rule hK hlt;rw [hra] at hra' c0
   cases hra'
   rw [hq] at d0 d2 d3 hkp hkb;have HKP:=zh hkp;have HKB:=zh hkb;clear hkp hkb
   by_cases hlt':k'<q.pats.length
   ·cases gk with
    |zero=>omega
    | succ f'=>
     obtain ⟨g3,o3,fm3,na3,nc3,hna3,f0,f1,f2,f3,f4,hn,l3⟩:=Iy HD.1.keep HKP.1 hlt';subst hna3;have HN:=zh hn;have hsz:=Ob (List.getElem_mem hlt)
     have HX:=zh (show Bo q.pats[k']≤900000∧y'.loops+(Bo q.pats[k']:Int)≤900000 by
      have:=Hb (List.getElem_mem hlt');have:=HRS.1;have:=HSZ.1;rw [HYL'.1];omega)
     have HE4:=zh (show (Ce (Ce y' (Dg K.g 0 y'.kind y'.loops q.pats[k'])) (Cg K.g 0 q.kind 0 false (k'+1) (q.pats.drop (k'+1)))).E=e2 by
      have h:=HEY.1;rw [List.drop_eq_getElem_cons hlt',Cg,Gg (Cz.or (BB _ _ _) (Kr _ _ _ _ _)),Mh] at h;rw [HYK.1,HYL'.1];exact h)
     clear hn hsz HEY;generalize q.pats[k']=kk at*
     go_wp2_with fail
     refine (HW.1 0 kk HX.1.1 _ _ _ _ HD.1 HN.1 (by rw [HFN'.1];rfl) (by rw [HYK.1];exact HRK.1) (by rw [HYL'.1];decide) HX.1.2).mono ?_;rintro r w9 ⟨rfl,hd,hs⟩;have HD9:=zh hd;have HS9:=zh (HS.1.trans hs);clear hd hs l_c c0 y0 d0 d2 d3 d4 d5 d6 d7 l2 f0 f1 f2 f3 f4 l3
     go_wp2_with fail
     go_roundg f'
     case measure=>omega
     case rel=>exact ⟨k'+1,_,by first|rfl|(simp;done)|(simp;omega),by omega,by omega,HE4.1,by rw [(Et _ _).1];exact HFN'.1,by rw [(Et _ _).2.1];exact HYK.1,by rw [(Et _ _).2.2];exact HYL'.1,HD9.1.kp0 Av,HS9.1.add Av⟩
   have hke:k'=q.pats.length:=by omega
   subst hke;have HEZ:=zh (show y'.E=e2 by have h:=HEY.1;rw [List.drop_length,Cg] at h;exact h)
   have HX:=zh (show Bo q.body≤900000∧y'.loops+(Bo q.body:Int)≤900000 by
    have:=HRS.1;have:=HSZ.1;rw [HYL'.1];have:=Ob (List.getElem_mem hlt);omega)
   clear HEY
   go_wp2_with fail
   refine (HW.1 0 q.body HX.1.1 _ _ _ _ HD.1 HKB.1 (by rw [HFN'.1];rfl) (by rw [HYK.1];exact HRK.1) (by rw [HYL'.1];decide) HX.1.2).mono ?_;rintro r w9 ⟨rfl,hd,hs⟩;have HD9:=zh hd;have HS9:=zh (HS.1.trans hs);clear hd hs l_c c0 y0 d0 d2 d3 d4 d5 d6 d7 l2
   go_wp2_with fail
   go_roundg f
   case measure=>omega
   case rel=>exact ⟨k+1,_,by first|rfl|(simp;done)|(simp;omega),by omega,by omega,by have:=HE3.1 y' HEZ.1;rw [←HYK.1] at this;rw [HYL'.1];exact this,by rw [(Et _ _).1];exact HFN'.1,by rw [(Et _ _).2.1,HYK.1];exact HRK.1,by rw [(Et _ _).2.2];exact HYL'.1,HD9.1.kp0 Av,HS9.1.add Av⟩
 have hke:k=K.g.rules.length:=by omega
 subst hke;have HEZ:=zh (HE.1 y (by have h:=HEY.1;rw [List.drop_length,Mi] at h;exact h));clear HEY HE
 go_wp2_with fail
 go_loopg [4] (K.g.funcs.length+1) (fun g j wr=>AlF K A st e w g j wr)
 case atStart=>exact ⟨0,_,rfl,Nat.zero_le _,rfl,HEZ.1,HY7.1,HYL.1,HD.1,HS.1⟩
 clear HD HS HEZ HFN HY7 HYL l_c c0 c1 c8 y0 y1 y8;obtain ⟨k,y,rfl,hk1,hk2,hey,hk7,hl,hd,hs⟩:=hrel;have HD:=zh hd;have HS:=zh hs;have HEY:=zh hey;have HY7:=zh hk7;have HYL:=zh hl;clear hd hs hey hk7 hl;obtain ⟨l_c,c0,c1,c2,c3,c4,c5,c6,c7,c8,c9,y0,y1,y2,y3,y4,y5,y6,y7,y8,y9⟩:=Ke HD.1.row;clear c0 c2 c3 c4 c5 c6 c8 c9 y0 y2 y3 y4 y5 y6 y8 y9
 by_cases hlt:k<K.g.funcs.length
 ·cases gk with
  |zero=>omega
  | succ f=>
   obtain ⟨g2,o2,pa,pc,bt,bm,ba,bl,bc,br,bi,hfa,d0,d1,d2,d3,d4,d5,d6,d7,hp,hn,l2⟩:=HD.1.funcS hK hlt
   have HX:=zh (show Bo K.g.funcs[k].body≤900000∧(0:Int)+(Bo K.g.funcs[k].body:Int)≤900000 by
    have:=DQ (List.getElem_mem hlt);have:=HSZ.1;omega)
   have HE2:=zh (show (Ce (Ce {y with fn:=(k:Int)} (Dg K.g (k+1) y.kind 0 K.g.funcs[k].body)) (Ip K.g (k+1) (K.g.funcs.drop (k+1)))).E=e by
    have h:=HEY.1;rw [List.drop_eq_getElem_cons hlt,Ip,Gg (Kr _ _ _ _ _),BC K.g (Nat.succ_pos k) 0 y.kind] at h;rw [←h];exact Ie (Ie (by rfl:({y with fn:=(k:Int)}:DX).E=y.E) _) _)
   rw [hfa] at c1;clear hp hn HEY d0 d1 d2 d3 d4 d5 d6 d7 l2
   go_upto_region 14 with fail
   refine Bj (fun W=>Ac [K.c] wr W∧W.heap[K.c]? =some (dC K A {y with fn:=(k:Int)} st)) ⟨Av,Kj HD.1.row⟩ ?_;rintro wq ⟨hk3,hr3⟩;replace HS:=zh (HS.1.trans (HD.1.step hk3));replace HD:=zh (HD.1.upd hK hk3 hr3);clear hk3 hr3 l_c c1 c7 y1 y7;obtain ⟨l_c,c0,c1,c2,c3,c4,c5,c6,c7,c8,c9,y0,y1,y2,y3,y4,y5,y6,y7,y8,y9⟩:=Ke HD.1.row;clear c0 c2 c3 c4 c5 c6 c7 c8 c9 y0 y2 y3 y4 y5 y6 y7 y8 y9;obtain ⟨g2',o2',pa',pc',bt,bm,ba,bl,bc,br,bi,hfa',d0,d1,d2,d3,d4,d5,d6,d7,hp,hn,l2⟩:=HD.1.funcS hK hlt;rw [hfa] at hfa' c1
   cases hfa'
   have HN:=zh hn;clear hp hn;generalize K.g.funcs[k]=q at*
   go_wp2_with fail
   refine (HW.1 (k+1) q.body HX.1.1 _ _ _ _ HD.1 HN.1 (by show (k:Int)=_;omega) HY7.1 (by show 0≤y.loops;rw [HYL.1];decide) (by show y.loops+_≤_;rw [HYL.1];exact HX.1.2)).mono ?_;rintro r w9 ⟨rfl,hd,hs⟩;have HD9:=zh hd;have HS9:=zh (HS.1.trans hs);clear hd hs l_c c1 y1 d0 d1 d2 d3 d4 d5 d6 d7 l2
   go_wp2_with fail
   go_roundg f
   case measure=>omega
   case rel=>exact ⟨k+1,_,by first|rfl|(simp;done)|(simp;omega),by omega,by omega,by have h:=HE2.1;rw [←HYL.1] at h;exact h,by rw [(Et _ _).2.1];exact HY7.1,by rw [(Et _ _).2.2];exact HYL.1,HD9.1.kp0 Av,HS9.1.add Av⟩
 have hke:k=K.g.funcs.length:=by omega
 subst hke;have HEZ:=zh (show y.E=e by have h:=HEY.1;rw [List.drop_length,Ip] at h;exact h);clear HEY
 go_wp2_with fail
 refine Cq (v:= .tuple #[]) (fun W=>Ac [] wr W) Av (fun w1 hW=>by simp [results,Jo,go_sem]) rfl (fun w1 hW=>⟨rfl,⟨y,HD.1.kp0 hW,HEZ.1,HY7.1,HYL.1⟩,HS.1.add hW⟩)
theorem DR{g:Ah}:∀{l:List Cy} {r:Cy},Mi g l=none→r∈l→(∀n∈r.pats,∃kd lo,Dg g 0 kd lo n=none)∧∃kd lo,Dg g 0 kd lo r.body=none
 | x::l,r,h,hm=>by
   rw [Mi] at h;obtain ⟨h1,h2⟩:=Option.or_eq_none' h;obtain ⟨h3,h4⟩:=Option.or_eq_none' h1
   rcases List.mem_cons.1 hm with rfl|hm
   ·exact ⟨fun n hn=>⟨_,_,Wz h3 hn⟩,_,_,h4⟩
   exact DR h2 hm
theorem Zi{g:Ah}:∀{l:List Az} {i k:Nat} (hk:k<l.length),Ip g i l=none→∃kd lo,Dg g (i+k+1) kd lo l[k].body=none
 | f::l,i,0,_,h=>by
   rw [Ip] at h;exact ⟨_,_,(Option.or_eq_none' h).1⟩
 | f::l,i,k+1,hk,h=>by
   rw [Ip] at h;obtain ⟨kd,lo,h3⟩:=Zi (k:=k) (by simpa using hk) (Option.or_eq_none' h).2;exact ⟨kd,lo,by rw [List.getElem_cons_succ,show i+(k+1)+1=i+1+k+1 from by omega];exact h3⟩
def KiS(K:Br)(x:DX)(st1:DS)(w:World)(gs:Nat)(curs:Array Value)(g:Nat)(j:Value)(W:World):Prop:=
 ∃(k:Nat) (A:DA) (st:DS),j= .int .i64 k∧k≤specials.length∧g=specials.length+1 -k∧Ee ((specials.drop k).map fun s=> .use (0,s) false 0 0) st=some st1∧DK K A x st W∧DI st∧Bh w W∧W.heap[gs]? =some (.cells curs 9 (0,0))
def KiR(K:Br)(x:DX)(s2:DS)(w:World)(g:Nat)(j:Value)(W:World):Prop:=
 ∃(k:Nat) (A:DA) (st:DS),j= .int .i64 k∧k≤K.g.rules.length∧g=K.g.rules.length+1 -k∧Ee (LU K.g (K.g.rules.drop k)) st=some s2∧DK K A x st W∧DI st∧Bh w W
def KiP(K:Br)(x:DX)(pats:List Af)(s2:DS)(w:World)(g:Nat)(j:Value)(W:World):Prop:=
 ∃(k:Nat) (A:DA) (st:DS),j= .int .i64 k∧k≤pats.length∧g=pats.length+1 -k∧Ee (Nq K.g 0 (pats.drop k)) st=some s2∧DK K A x st W∧DI st∧Bh w W
def KiF(K:Br)(s3:DS)(w:World)(g:Nat)(j:Value)(W:World):Prop:=
 ∃(k:Nat) (A:DA) (y:DX) (st:DS),j= .int .i64 k∧k≤K.g.funcs.length∧g=K.g.funcs.length+1 -k∧Ee (Ou K.g k (K.g.funcs.drop k)) st=some s3∧y.e=0∧DK K A y st W∧DI st∧Bh w W
def KiQ(K:Br)(x:DX)(i:Nat)(ps:List ByteArray)(s2:DS)(w:World)(g:Nat)(j:Value)(W:World):Prop:=
 ∃(k:Nat) (A:DA) (st:DS),j= .int .i64 k∧k≤ps.length∧g=ps.length+1 -k∧Ee ((ps.drop k).map fun s=> .reg (i+1,s)) st=some s2∧DK K A x st W∧DI st∧Bh w W
theorem ki1{p:Prop}(h:p:=by
 obtain ⟨-,⟨rfl,h0⟩|⟨gs,cs,curs,rfl,hbs,hhs,hles,hmxs,hczs,htks⟩⟩:=HO.1
 ·exact absurd h0 zi
 have HR:=zh hhs;have HT:=zh htks;have HCS:=zh hmxs;clear hhs htks hbs hczs hmxs HO;obtain ⟨N,hN⟩:∃N,N=specials.length:=⟨_,rfl⟩;rw [←hN] at HT hles⊢;have HN:=zh hN;clear hN;have hN1:N≤100:=by rw [HN.1];decide
 go_loopg [4] (N+1) (fun g j wr=>KiS K x st1 w gs curs g j wr)
 case atStart=>exact ⟨0,_,_,rfl,Nat.zero_le _,by rw [←HN.1];omega,HE.1,HD.1.kp0 Av,HI.1,HS.1.add Av,Ac.at (fp:= []) Av HR.1 qg⟩
 clear HD HI HS HR HE;obtain ⟨k,A1,s1,rfl,hk1,hk2,he,hd,hi,hs,hr⟩:=hrel;have HD:=zh hd;have HS:=zh hs;have HR:=zh hr;have HI:=zh hi;have HE:=zh he;rw [←HN.1] at hk1 hk2;clear hd hs hr hi he
 by_cases hlt:k<N
 ·cases gk with
  |zero=>omega
  | succ f=>
   have hlt2:k<specials.length:=by rw [←HN.1];exact hlt
   have cs1:wr.cell? ⟨gs,k,none⟩=some (.string specials[k]):=by
    rw [Aa HR.1 k];have h1:=congrArg (fun l=>l[k]?) HT.1;simp only [List.getElem?_take,Nat.mul_one,if_pos hlt,List.getElem?_map,List.getElem?_eq_getElem hlt2,Option.map_some] at h1
    simpa using h1
   have l_gs:=Ad HR.1;have hki:(k:Int)<(N:Int):=by omega
   have h:=HE.1;rw [List.drop_eq_getElem_cons hlt2,List.map_cons,Do,Option.bind_eq_some_iff] at h;obtain ⟨s2,h1,h2⟩:=h;have HI2:=zh (HI.1.ev h1);have HE2:=zh h2;simp only [It,Option.bind_eq_some_iff] at h1;obtain ⟨⟨i,d1⟩,g1,g2⟩:=h1;have HU:=zh (Rb hK HD.1 0 (Nat.zero_le _) specials[k] (v:= -1) jh 1 0 0 (by rw [WS];exact g1) g2 HI.1.1);clear g1 g2 h2 HE;generalize hq:specials[k]=q at*
   clear hq hlt2
   go_wp2_with fail
   refine HU.1.mono ?_;rintro r w9 ⟨rfl,⟨A9,hd⟩,hs⟩;have HD9:=zh hd;have HS9:=zh (HS.1.trans hs);have HR9:=zh (hs.at HR.1 qg);clear hd hs cs1 l_gs
   go_wp2_with fail
   go_roundg f
   case measure=>omega
   case rel=>exact ⟨k+1,_,_,by simp,by rw [←HN.1];omega,by rw [←HN.1];omega,HE2.1,HD9.1.kp0 Av,HI2.1,HS9.1.add Av,Ac.at (fp:= []) Av HR9.1 qg⟩
 have hnk:¬((k:Int)<(N:Int)):=by omega
 have hst:s1=st1:=by have h:=HE.1;rw [List.drop_eq_nil_of_le (by rw [←HN.1];omega)] at h;cases h;rfl
 rw [hst] at HD HI;clear HE hst;exact ki2):p:=h
theorem ki2{p:Prop}(h:p:=by
 have hrs:=hK.rsmall;have hfs:=hK.small;obtain ⟨l_c,c0,c1,c2,c3,c4,c5,c6,c7,c8,c9,y0,y1,y2,y3,y4,y5,y6,y7,y8,y9⟩:=Ke HD.1.row;clear c0 c1 c2 c3 c4 c5 c6 c8 c9 y0 y1 y2 y3 y4 y5 y6 y8 y9
 go_upto_region 7 with fail
 refine Bj (fun W=>Ac [K.c] wr W∧W.heap[K.c]? =some (dC K A1 {x with fn:= -1} st1)) ⟨Av,Kj HD.1.row⟩ ?_;rintro wq ⟨hk9,hr9⟩;replace HS:=zh (HS.1.trans (HD.1.step hk9));replace HD:=zh (HD.1.upd hK hk9 hr9);clear hk9 hr9 l_c c7 y7 HR HT HCS HN;obtain ⟨x1,hx1⟩:∃y:DX,y={x with fn:= -1}:=⟨_,rfl⟩
 have HX1:=zh (show x1.fn=((0:Nat):Int) -1∧x1.e=0 by rw [hx1];exact ⟨rfl,HX0.1⟩);rw [←hx1] at HD;clear hx1;have HG:=zh (DN hK HX1.1.1 (Nat.zero_le _) 1000000 (Nat.le_refl _))
 go_wp2_with fail
 go_loopg [5] (K.g.rules.length+1) (fun g j wr=>KiR K x1 st2 w g j wr)
 case atStart=>exact ⟨0,_,_,rfl,Nat.zero_le _,rfl,HE2.1,HD.1.kp0 Av,HI.1,HS.1.add Av⟩
 clear HD HS HI HE2 HX0 hnk hlt hk1 hk2;obtain ⟨k,A1,sA,rfl,hk1,hk2,he,hd,hi,hs⟩:=hrel;have HD:=zh hd;have HS:=zh hs;have HI:=zh hi;have HE:=zh he;clear hd hs hi he;obtain ⟨l_c,c0,c1,c2,c3,c4,c5,c6,c7,c8,c9,y0,y1,y2,y3,y4,y5,y6,y7,y8,y9⟩:=Ke HD.1.row;clear c1 c2 c3 c4 c5 c6 c7 c8 c9 y1 y2 y3 y4 y5 y6 y7 y8 y9
 by_cases hlt:k<K.g.rules.length
 ·cases gk with
  |zero=>omega
  | succ f=>
   obtain ⟨g2,o2,pa,pc,bt,bm,ba,bl,bc,br,bi,hra,d0,d2,d3,d4,d5,d6,d7,hkp,hkb,l2⟩:=HD.1.rule hK hlt;have HKP:=zh hkp;have hts:=hK.tsmall _ (List.getElem_mem hlt);have hwr:=HWF.1.rules _ (List.getElem_mem hlt);have HWK:=zh hwr.1;have HWB:=zh hwr.2;have hfl:=DR (Option.or_eq_none' HFL.1).1 (List.getElem_mem hlt);have HFP:=zh hfl.1;have HFB:=zh hfl.2;have hsz:=Vm (List.getElem_mem hlt);have HSZ:=zh (show Ar K.g.rules[k].pats≤1000000∧Bo K.g.rules[k].body≤1000000 by have:=HWF.1.size;omega);have h:=HE.1;rw [List.drop_eq_getElem_cons hlt,LU,Cl,Cl,Option.bind_eq_some_iff] at h;obtain ⟨sB,h12,h3⟩:=h;rw [Option.bind_eq_some_iff] at h12;obtain ⟨sP,h1,h2⟩:=h12;have HE1:=zh h1;have HE2:=zh h2;have HE3:=zh h3;have hHI2:=HI.1.evs h1;have HIB:=zh (hHI2.evs h2);rw [hra] at c0;clear hkp hkb HE h1 h2 h3 hwr hfl hsz hHI2;generalize hq:K.g.rules[k]=q at*
   go_wp2_with fail
   clear l_c c0 y0 d0 d2 d3 d4 d5 d6 d7 l2
   go_loopg [6] (q.pats.length+1) (fun g j wr=>KiP K x1 q.pats sP w g j wr)
   case atStart=>exact qrc
   clear HD HS HI HE1;obtain ⟨k',A2,sC,rfl,hk1',hk2',he,hd,hi,hs⟩:=hrel;have HD:=zh hd;have HS:=zh hs;have HI:=zh hi;have HE:=zh he;clear hd hs hi he;obtain ⟨l_c,c0,c1,c2,c3,c4,c5,c6,c7,c8,c9,y0,y1,y2,y3,y4,y5,y6,y7,y8,y9⟩:=Ke HD.1.row;clear c1 c2 c3 c4 c5 c6 c7 c8 c9 y1 y2 y3 y4 y5 y6 y7 y8 y9;obtain ⟨g2',o2',pa',pc',bt',bm',ba',bl',bc',br',bi',hra',d0,d2,d3,d4,d5,d6,d7,hkp,hkb,l2⟩:=HD.1.rule hK hlt;rw [hra] at hra' c0
   cases hra'
   rw [hq] at d0 d2 d3 hkp hkb;have HKP:=zh hkp;have HKB:=zh hkb;clear hkp hkb
   by_cases hlt':k'<q.pats.length
   ·cases gk with
    |zero=>omega
    |succ f'=>
     obtain ⟨g3,o3,fm3,na3,nc3,hna3,f0,f1,f2,f3,f4,hn,l3⟩:=Iy HD.1.keep HKP.1 hlt';subst hna3;have HN:=zh hn;have h:=HE.1;rw [List.drop_eq_getElem_cons hlt',Nq,Cl,Option.bind_eq_some_iff] at h;obtain ⟨sN,h1,h2⟩:=h;have HE1:=zh h1;have HE4:=zh h2;have HKK:=zh (show Bo q.pats[k']≤1000000∧Yg q.pats[k']∧∃kd lo,Dg K.g 0 kd lo q.pats[k']=none from ⟨Nat.le_trans (Hb (List.getElem_mem hlt')) HSZ.1.1,Kk HWK.1 (List.getElem_mem hlt'),HFP.1 _ (List.getElem_mem hlt')⟩);clear hn HE h1 h2;generalize q.pats[k']=kk at*
     go_wp2_with fail
     refine (HG.1 kk HKK.1.1 _ _ _ _ _ false HD.1 HI.1 HN.1 HKK.1.2.1 HKK.1.2.2 (by rw [Pv];exact HE1.1)).mono ?_;rintro r w9 ⟨rfl,⟨A9,hd⟩,hs,hi⟩;have HD9:=zh hd;have HS9:=zh (HS.1.trans hs);have HI9:=zh hi;clear hd hs hi l_c c0 y0 d0 d2 d3 d4 d5 d6 d7 l2 f0 f1 f2 f3 f4 l3
     go_wp2_with fail
     go_roundg f'
     case measure=>omega
     case rel=>exact ⟨k'+1,_,_,by first|rfl|(simp;done)|(simp;omega),by omega,by omega,HE4.1,HD9.1.kp0 Av,HI9.1,HS9.1.add Av⟩
   have hke:k'=q.pats.length:=by omega
   subst hke;obtain rfl:sC=sP:=by have h:=HE.1;rw [List.drop_length,Nq,Kc] at h;cases h;rfl
   clear HE
   go_wp2_with fail
   refine (HG.1 q.body HSZ.1.2 _ _ _ _ _ false HD.1 HI.1 HKB.1 HWB.1 HFB.1 (by rw [Pv];exact HE2.1)).mono ?_;rintro r w9 ⟨rfl,⟨A9,hd⟩,hs,hi⟩;have HD9:=zh hd;have HS9:=zh (HS.1.trans hs);have HI9:=zh hi;clear hd hs hi l_c c0 y0 d0 d2 d3 d4 d5 d6 d7 l2
   go_wp2_with fail
   go_roundg f
   case measure=>omega
   case rel=>exact ⟨k+1,_,_,by first|rfl|(simp;done)|(simp;omega),by omega,by omega,HE3.1,HD9.1.kp0 Av,HI9.1,HS9.1.add Av⟩
 have hke:k=K.g.rules.length:=by omega
 subst hke;obtain rfl:st2=sA:=by have h:=HE.1;rw [List.drop_length,LU,Kc] at h;exact (Option.some.inj h).symm
 clear HE HG;exact ki3):p:=h
theorem ki3{p:Prop}(h:p:=by
 go_wp2_with fail
 clear c0 y0 l_c
 go_loopg [7] (K.g.funcs.length+1) (fun g j wr=>KiF K st3 w g j wr)
 case atStart=>exact ⟨0,_,_,_,rfl,Nat.zero_le _,rfl,HEF.1,HX1.1.2,HD.1.kp0 Av,HI.1,HS.1.add Av⟩
 clear HD HS HI HEF HX1;obtain ⟨k,A1,y,sA,rfl,hk1,hk2,he,hye,hd,hi,hs⟩:=hrel;have HD:=zh hd;have HS:=zh hs;have HI:=zh hi;have HE:=zh he;have HYE:=zh hye;clear hd hs hi he hye;obtain ⟨l_c,c0,c1,c2,c3,c4,c5,c6,c7,c8,c9,y0,y1,y2,y3,y4,y5,y6,y7,y8,y9⟩:=Ke HD.1.row;clear c0 c2 c3 c4 c5 c6 c8 c9 y0 y2 y3 y4 y5 y6 y8 y9
 by_cases hlt:k<K.g.funcs.length
 ·cases gk with
  |zero=>omega
  | succ f=>
   obtain ⟨g2,o2,pa,pc,bt,bm,ba,bl,bc,br,bi,hfa,d0,d1,d2,d3,d4,d5,d6,d7,hp,hn,l2⟩:=HD.1.funcS hK hlt;have HP:=zh hp;have hps:=hK.psmall _ (List.getElem_mem hlt);have HWB:=zh (HWF.1.funcs _ (List.getElem_mem hlt));have hfl:=Zi hlt (Option.or_eq_none' HFL.1).2;rw [Nat.zero_add] at hfl;have HFB:=zh hfl;have hsz:=DQ (List.getElem_mem hlt);have HSZ:=zh (show Bo K.g.funcs[k].body≤1000000 by have:=HWF.1.size;omega);have h:=HE.1;rw [List.drop_eq_getElem_cons hlt,Ou,Cl,Cl,Option.bind_eq_some_iff] at h;obtain ⟨sB,h12,h3⟩:=h;rw [Option.bind_eq_some_iff] at h12;obtain ⟨sP,h1,h2⟩:=h12;have HE1:=zh h1;have HE2:=zh h2;have HE3:=zh h3;rw [hfa] at c1;clear hp hn HE h1 h2 h3 hfl hsz;generalize hq:K.g.funcs[k]=q at*
   go_upto_region 19 with fail
   refine Bj (fun W=>Ac [K.c] wr W∧W.heap[K.c]? =some (dC K A1 {y with fn:=(k:Int)} sA)) ⟨Av,Kj HD.1.row⟩ ?_;rintro wq ⟨hk9,hr9⟩;replace HS:=zh (HS.1.trans (HD.1.step hk9));replace HD:=zh (HD.1.upd hK hk9 hr9);clear hk9 hr9 l_c c1 c7 y1 y7 d0 d1 d2 d3 d4 d5 d6 d7 l2;obtain ⟨y',hy'⟩:∃z:DX,z={y with fn:=(k:Int)}:=⟨_,rfl⟩
   have HY:=zh (show y'.fn=((k+1:Nat):Int) -1∧y'.e=0 by rw [hy'];exact ⟨by show (k:Int)=_;omega,HYE.1⟩);rw [←hy'] at HD;clear hy' HYE
   go_wp2_with fail
   go_loopg [8] (q.params.length+1) (fun g j wr=>KiQ K y' k q.params sP w g j wr)
   case atStart=>exact qrc
   clear HD HS HI HE1;obtain ⟨k',A2,sC,rfl,hk1',hk2',he,hd,hi,hs⟩:=hrel;have HD:=zh hd;have HS:=zh hs;have HI:=zh hi;have HE:=zh he;clear hd hs hi he;obtain ⟨l_c,c0,c1,c2,c3,c4,c5,c6,c7,c8,c9,y0,y1,y2,y3,y4,y5,y6,y7,y8,y9⟩:=Ke HD.1.row;clear c0 c2 c3 c4 c5 c6 c7 c8 c9 y0 y2 y3 y4 y5 y6 y7 y8 y9;obtain ⟨g2',o2',pa',pc',bt',bm',ba',bl',bc',br',bi',hfa',d0,d1,d2,d3,d4,d5,d6,d7,hp',hn,l2⟩:=HD.1.funcS hK hlt;rw [hfa] at hfa' c1
   cases hfa'
   rw [hq] at d0 d1 d2 hn hp';have HP':=zh hp';have HN:=zh hn;clear hn hp'
   by_cases hlt':k'<q.params.length
   ·cases gk with
    |zero=>omega
    |succ f'=>
     obtain ⟨g4,o4,hg4,s0⟩:=Rx HD.1.keep HP'.1 hlt';subst hg4;have h:=HE.1;rw [List.drop_eq_getElem_cons hlt',List.map_cons,Do,Option.bind_eq_some_iff] at h;obtain ⟨sN,h1,h2⟩:=h;have HIN:=zh (HI.1.ev h1);have HE4:=zh h2;simp only [It,Option.map_eq_some_iff] at h1;obtain ⟨⟨i,d9⟩,g1,g9⟩:=h1;have g9':d9=sN:=g9;rw [g9'] at g1;have HO:=zh (Oo hK HD.1 (k+1) hlt q.params[k'] (v:=(k:Int)) jh (by rw [Vq hlt (by rw [hq];exact List.getElem_mem hlt')];exact g1) HI.1.1);clear HE h2 g1 g9 g9';generalize q.params[k']=s at*
     go_wp2_with fail
     refine HO.1.mono ?_;rintro r w9 ⟨ta,tc,rfl,hd,hs⟩;have HD9:=zh hd;have HS9:=zh (HS.1.trans hs);clear hd hs l_c c1 y1 d0 d1 d2 d3 d4 d5 d6 d7 l2 s0
     go_wp2_with fail
     go_roundg f'
     case measure=>omega
     case rel=>exact ⟨k'+1,_,_,by first|rfl|(simp;done)|(simp;omega),by omega,by omega,HE4.1,HD9.1.kp0 Av,HIN.1,HS9.1.add Av⟩
   have hke:k'=q.params.length:=by omega
   subst hke;obtain rfl:sC=sP:=by have h:=HE.1;rw [List.drop_length,List.map_nil,Kc] at h;cases h;rfl
   have HG:=zh (DN hK HY.1.1 hlt 1000000 (Nat.le_refl _));clear HE
   go_wp2_with fail
   refine (HG.1 q.body HSZ.1 _ _ _ _ _ false HD.1 HI.1 HN.1 HWB.1 HFB.1 (by rw [Pv];exact HE2.1)).mono ?_;rintro r w9 ⟨rfl,⟨A9,hd⟩,hs,hi⟩;have HD9:=zh hd;have HS9:=zh (HS.1.trans hs);have HI9:=zh hi;clear hd hs hi l_c c1 y1 d0 d1 d2 d3 d4 d5 d6 d7 l2 HG
   go_wp2_with fail
   go_roundg f
   case measure=>omega
   case rel=>exact ⟨k+1,_,_,_,by first|rfl|(simp;done)|(simp;omega),by omega,by omega,HE3.1,HY.1.2,HD9.1.kp0 Av,HI9.1,HS9.1.add Av⟩
 have hke:k=K.g.funcs.length:=by omega
 subst hke;obtain rfl:st3=sA:=by have h:=HE.1;rw [List.drop_length,Ou,Kc] at h;exact (Option.some.inj h).symm
 clear HE c7 y1 y7;exact ki4):p:=h
theorem DK.useAt{K:Br}{A:DA}{x:DX}{st:DS}{W:World}(h:DK K A x st W){i:Nat}(hi:i<st.uses.length):∃g,A.ua=some ⟨g,0,none⟩∧g<W.heap.size∧W.cell? ⟨g,i*3,none⟩=some (.int .i64 st.uses[i].thing)∧W.cell? ⟨g,i*3+1,none⟩=some (.int .i64 st.uses[i].how)∧W.cell? ⟨g,i*3+2,none⟩=some (.complex .f64 st.uses[i].re st.uses[i].im):=by
 obtain ⟨g,h1,h2,-,h4⟩:=h.uses.get usL hi;exact ⟨g,h1,h2,h4 0 _ rfl,h4 1 _ rfl,h4 2 _ rfl⟩
theorem KT.addB{ts:List TypeId}{a b c:World}{B:Nat}(h:KT ts a b)(k:Ac [B] b c)(hB:a.heap.size≤B):KT ts a c:=
 ⟨k.os.trans h.os,k.tape.trans h.tape,k.output.trans h.output,Nat.le_trans h.size k.size,fun i hi hn=>(k.block i (Nat.lt_of_lt_of_le hi h.size) qi).trans (h.block i hi hn)⟩
theorem QO{w:World}{b:Nat}{T:TypeId}{c0 c1 c2:Value}(h:w.heap[b]? =some (.cells #[c0,c1,c2] T (0,0))):b<w.heap.size∧w.cell? ⟨b,0,none⟩=some c0∧w.cell? ⟨b,1,none⟩=some c1∧w.cell? ⟨b,2,none⟩=some c2:=
 ⟨Ad h,Aa h 0,Aa h 1,Aa h 2⟩
abbrev LK(l:List Int):Obj:= .cells (l.map (Value.int .i64)).toArray 3 (0,0)
theorem Aab:∃i,Tryz.prog.info? 3=some i∧i.zero=some (.int .i64 0)∧i.size=1∧i.bytes=8:=by
 have h:(Tryz.prog.info? 3).map (fun i=>(i.zero,i.size,i.bytes))=some (some (.int .i64 0),1,8):=by kernel_rfl
 cases hi:Tryz.prog.info? 3 with
 |none=>rw [hi] at h;cases h
 |some i=>rw [hi] at h;simp at h;exact ⟨i,rfl,h.1,h.2.1,h.2.2⟩
theorem XA(W:World){n:Nat}(hn:n≤1000000):(Instr.makeSlice 38 (.int .i64 (n:Int)) (.int .i64 (n:Int))).run Tryz.prog W= .ok (.slice (some ⟨W.heap.size,0,none⟩) n n) (W.alloc (LK (List.replicate n 0))):=by
 obtain ⟨i,hi,hz,hs,hb⟩:=Aab;have:=run_make (P:=Tryz.prog) W 38 3 i (.int .i64 0) Tryz.underlying38 hi hz .i64 .i64 n n jh (Int.le_refl _) (by rw [hb];omega) jh;rw [this,hs]
 have e:madeCells (Value.int .i64 0).cells (Int.toNat (n:Int)*1)=((List.replicate n (0:Int)).map (Value.int .i64)).toArray:=by
  apply Array.toList_inj.1;show (madeCells #[Value.int .i64 0] _).toList=_;rw [toList_madeCells_one];simp
 rw [e];rfl
theorem Px{st:DS}:∀{l:List Gq} {k kf:List Int},Fq st l k=some kf→kf.length=k.length
 | [],k,kf,h=>by rw [Fq] at h;cases h;rfl
 | u::l,k,kf,h=>by
   rw [Fq] at h
   split at h
   ·simp only [Option.bind_eq_some_iff] at h;obtain ⟨r,-,v,-,h3⟩:=h;rw [Px h3];split<;>simp
   exact Px h
def KiU(K:Br)(A:DA)(y:DX)(st:DS)(kf:List Int)(w:World)(B:Nat)(g:Nat)(j:Value)(W:World):Prop:=
 ∃(k:Nat) (kk:List Int),j= .int .i64 k∧k≤st.uses.length∧g=st.uses.length+1 -k∧kk.length=st.things.length∧Fq st (st.uses.drop k) kk=some kf∧DK K A y st W∧Bh w W∧W.heap[B]? =some (LK kk)
theorem ki4{p:Prop}(h:p:=by
 have hul:=HI.1.2.2
 go_upto_region 24 with fail
 clear c1 l_c;obtain ⟨l_c,c0,c1,c2,c3,c4,c5,c6,c7,c8,c9,y0,y1,y2,y3,y4,y5,y6,y7,y8,y9⟩:=Ke HD.1.row;clear c0 c1 c3 c4 c5 c6 c7 c8 c9 y0 y1 y2 y3 y4 y5 y6 y7 y8 y9;obtain ⟨n,hn⟩:∃n,n=st3.things.length:=⟨_,rfl⟩;rw [←hn] at c2 HKF;have hn1:n≤1000000:=by rw [hn];exact HI.1.1
 have hmk:=fun W=>XA W hn1
 have HN:=zh hn;clear hn
 go_upto_region 25 with fail
 refine Bj (fun W=>Ac [] wr W∧W.heap[wr.heap.size]? =some (LK (List.replicate n 0))) ⟨Av,Nv⟩ ?_;rintro wq ⟨hk9,hr9⟩;obtain ⟨B,hB⟩:∃B,B=wr.heap.size:=⟨_,rfl⟩;rw [←hB] at hr9⊢;have HB0:=zh (show K.w0.heap.size≤B∧w.heap.size≤B by rw [hB];exact ⟨HD.1.keep.size,HS.1.size⟩);have HR:=zh hr9;replace HS:=zh (HS.1.add hk9);replace HD:=zh (HD.1.kp0 hk9);clear hk9 hr9 hB l_c c2 hmk
 go_wp2_with fail
 go_loopg [10] (st3.uses.length+1) (fun g j wr=>KiU K A1 y st3 kf w B g j wr)
 case atStart=>exact ⟨0,_,rfl,Nat.zero_le _,rfl,by rw [List.length_replicate];exact HN.1,HKF.1,HD.1.kp0 Av,HS.1.add Av,Ac.at (fp:= []) Av HR.1 qg⟩
 clear HD HS HR HKF;obtain ⟨k,kk,rfl,hk1,hk2,hkl,he,hd,hs,hr⟩:=hrel;have HD:=zh hd;have HS:=zh hs;have HR:=zh hr;have HE:=zh he;have HKL:=zh hkl;clear hd hs hr he hkl;obtain ⟨l_c,c0,c1,c2,c3,c4,c5,c6,c7,c8,c9,y0,y1,y2,y3,y4,y5,y6,y7,y8,y9⟩:=Ke HD.1.row;clear c0 c1 c2 c4 c5 c6 c7 c8 c9 y0 y1 y2 y3 y4 y5 y6 y7 y8 y9
 by_cases hlt:k<st3.uses.length
 ·cases gk with
  |zero=>omega
  | succ f=>
   obtain ⟨g2,hua,l2,d0,d1,d2⟩:=HD.1.useAt hlt;have hcap:=HD.1.uses.cap;rw [hua] at c3;clear hua;have hU:=HU.1 _ (List.getElem_mem hlt);have h:=HE.1;rw [List.drop_eq_getElem_cons hlt] at h;have HC:=zh (ED h hU);clear h hU HE;generalize st3.uses[k]=u at*
   go_upto_region 29 with fail
   refine zsc ?_;rintro wq ⟨hk9,hr9⟩;obtain ⟨C,hC⟩:∃C,C=wr.heap.size:=⟨_,rfl⟩;rw [←hC] at hr9⊢;have HCB:=zh hr9;replace HS:=zh (HS.1.add hk9);replace HD:=zh (HD.1.kp0 hk9);replace HR:=zh (hk9.at HR.1 qg);clear hk9 hr9 hC l_c c3 l2 d0 d1 d2 hcap
   rcases HC.1 with ⟨h1,h2,h3⟩|⟨h12,t,r,v,ht,hr,hv,h3⟩
   ·have e1:(u.how==1)=false:=beq_false_of_ne h1;have e2:(u.how==2)=false:=beq_false_of_ne h2;obtain ⟨l_C,x0,x1,x2⟩:=QO HCB.1;have HE3:=zh h3;clear h1 h2 h3 HC
    go_wp2_with fail
    go_roundg f
    case measure=>omega
    case rel=>exact jsc
   have H12:=zh h12;have HRT:=zh hr;have HV:=zh hv;have HE3:=zh h3;clear h12 hr hv h3 HC;rw [ht] at HCB;clear ht
   go_cut [163] (fun v W=>v= .bool true∧Ac [] wq W)
   case first=>
    obtain ⟨l_C,x0,x1,x2⟩:=QO HCB.1
    rcases H12.1 with h|h
    ·have e1:(u.how==1)=true:=by rw [h];rfl
     clear h
     go_wp2_with fail
     go_meet
     case rel=>exact ⟨rfl,Av⟩
    have e1:(u.how==1)=false:=by rw [h];rfl
    have e2:(u.how==2)=true:=by rw [h];rfl
    clear h
    go_wp2_with fail
    go_meet
    case rel=>exact ⟨rfl,Av⟩
   obtain ⟨rfl,hk⟩:=hcut;replace HS:=zh (HS.1.add hk);replace HD:=zh (HD.1.kp0 hk);replace HR:=zh (hk.at HR.1 qg);replace HCB:=zh (hk.at HCB.1 qg);clear hk;generalize wc=wl at*
   obtain ⟨l_C,x0,x1,x2⟩:=QO HCB.1
   go_wp2_with fail
   refine (Hw HD.1 HI.1.1 HRT.1).mono ?_;rintro r9 w8 ⟨rfl,hk⟩;replace HS:=zh (HS.1.add hk);replace HD:=zh (HD.1.kp0 hk);replace HR:=zh (hk.at HR.1 qg);replace HCB:=zh (hk.at HCB.1 qg);clear hk l_C x0 x1 x2;obtain ⟨l_C,x0,x1,x2⟩:=QO HCB.1;have hrn:r<n:=by rw [HN.1,←HKL.1];exact (List.getElem?_eq_some_iff.1 HV.1).1
   have kc:w8.cell? ⟨B,r,none⟩=some (.int .i64 v):=by rw [Aa HR.1 r];simp [HV.1]
   have kz:=Ab HR.1 r;have l_B:=Ad HR.1
   by_cases hv0:v=0
   ·have ev:(v==0)=true:=by rw [hv0];rfl
    replace HE3:=zh (show Fq st3 (st3.uses.drop (k+1)) (kk.set r u.how)=some kf by have h:=HE3.1;rw [if_pos hv0] at h;exact h);clear hv0
    go_wp2_with fail
    go_roundg f
    case measure=>omega
    case rel=>exact ⟨k+1,_,by first|rfl|(simp;done)|(simp;omega),by omega,by omega,by rw [List.length_set];exact HKL.1,HE3.1,HD.1.kpB Av HR.1 HB0.1.1 qg,HS.1.addB (B:=B) Av HB0.1.2,by rw [LK,List.map_set,←List.setIfInBounds_toArray];exact Kj HR.1⟩
   have ev:(v==0)=false:=beq_false_of_ne hv0;replace HE3:=zh (show Fq st3 (st3.uses.drop (k+1)) kk=some kf by have h:=HE3.1;rw [if_neg hv0] at h;exact h);clear hv0
   go_wp2_with fail
   go_roundg f
   case measure=>omega
   case rel=>exact jsc
 have hke:k=st3.uses.length:=by omega
 subst hke;obtain rfl:kf=kk:=by have h:=HE.1;rw [List.drop_length,Fq] at h;exact (Option.some.inj h).symm
 clear HE;exact ki5):p:=h
end Go.Proofs.YtkfillfkbhbbjaaGreatDoor
