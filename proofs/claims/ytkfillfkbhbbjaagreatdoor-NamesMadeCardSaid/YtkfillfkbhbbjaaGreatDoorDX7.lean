/- DX5, DX6, DX7. -/
import Derived.Test.YtkfillfkbhbbjaaGreatDoorDWo
import Derived.Test.YtkfillfkbhbbjaaGreatDoorInfo
import Derived.Test.YtkfillfkbhbbjaaGreatDoorDWq
import Derived.StillTailTactics
import Derived.Test.YtkfillfkbhbbjaaGreatDoorMkC
import Derived.Test.YtkfillfkbhbbjaaGreatDoorNamA
import Derived.Test.YtkfillfkbhbbjaaGreatDoorDLawB
set_option maxRecDepth 100000
set_option maxHeartbeats 4000000
set_option linter.unusedSimpArgs false
set_option linter.unusedVariables false
namespace Go.Proofs.YtkfillfkbhbbjaaGreatDoor
open Go.RowKit
theorem Ua{st:DS}{k:List Int}{i:Nat}{x:Ea}{l:List Ea}{sc ar:List ByteArray}{fin:List ByteArray×List ByteArray}(h:Gk st k i (x::l) sc ar=some fin):(x.t.1>0∧Gk st k (i+1) l sc ar=some fin)∨(x.t.1=0∧∃(r:Nat) (v:Int),Jb st i=some r∧k[r]? =some v∧((v=2∧Gk st k (i+1) l sc (Ep x.t.2 ar)=some fin)∨(v≠2∧Am x.t.2=true∧Gk st k (i+1) l sc ar=some fin)∨(v≠2∧Am x.t.2=false∧Gk st k (i+1) l (Ep x.t.2 sc) ar=some fin))):=by
 rw [Gk] at h
 split at h
 ·rename_i h1;exact .inl ⟨h1,h⟩
 rename_i h1;simp only [Option.bind_eq_some_iff] at h;obtain ⟨r,h2,v,h3,h4⟩:=h;refine .inr ⟨by omega,r,v,h2,h3, ?_⟩
 split at h4
 ·rename_i h5;exact .inl ⟨h5,h4⟩
 rename_i h5
 cases hs:Am x.t.2 with
 |true=>rw [hs,if_pos rfl] at h4;exact .inr (.inl ⟨h5,rfl,h4⟩)
 |false=>rw [hs,if_neg qg] at h4;exact .inr (.inr ⟨h5,rfl,h4⟩)
theorem Xf{st:DS}{k:List Int}{i:Nat}{s:ByteArray}{l:List ByteArray}{xs:List Bool}(h:Mm st k i (s::l)=some xs):∃(j r:Nat) (v:Int) (m:List Bool),Fi (i+1,s) st.things 0=some j∧Jb st j=some r∧k[r]? =some v∧Mm st k i l=some m∧xs=(v==2)::m:=by
 rw [Mm] at h;simp only [Option.bind_eq_some_iff,Option.map_eq_some_iff] at h;obtain ⟨j,h1,r,h2,v,h3,m,h4,h5⟩:=h;exact ⟨j,r,v,m,h1,h2,h3,h4,h5.symm⟩
theorem Tz{st:DS}{k:List Int}{i:Nat}{f:Az}{l:List Az}{xs:List (List Bool)}(h:Ka st k i (f::l)=some xs):∃(x:List Bool) (m:List (List Bool)),Mm st k i f.params=some x∧Ka st k (i+1) l=some m∧xs=x::m:=by
 rw [Ka] at h;simp only [Option.bind_eq_some_iff,Option.map_eq_some_iff] at h;obtain ⟨x,h1,m,h2,h3⟩:=h;exact ⟨x,m,h1,h2,h3.symm⟩
def BP(W:World)(l:List ByteArray)(v:Value):Prop:=∃b,W.ownsRow b 9 1 v l.length (l.map Value.string)∧(l= []→v= .slice none 0 0)
theorem BP.nil{W:World}:BP W [] (.slice none 0 0):=⟨0,World.ownsRow_nil _ _ _ _,fun _=>rfl⟩
theorem BP.kp{ts:List TypeId}{W W':World}{l:List ByteArray}{v:Value}(h:BP W l v)(hk:KT ts W W')(ht:9∉ts):BP W' l v:=by
 obtain ⟨b,h1,h2⟩:=h;exact ⟨b,My h1 (fun g c hg=>hk.at hg ht),h2⟩
theorem BP.shape{W:World}{l:List ByteArray}{v:Value}(h:BP W l v):∃a c,v= .slice a l.length c:=by
 obtain ⟨b,⟨-,⟨h1,h2⟩|⟨g,cap,cur,h1,hb,hg,h3,h4,h5,h6⟩⟩,-⟩:=h
 ·exact ⟨none,0,by rw [h1,h2]⟩
 exact ⟨_,cap,h1⟩
theorem BP.slice{W:World}{l:List ByteArray}{v:Value}(h:BP W l v):Aq Ef W (fun _=>True) l v:=by
 obtain ⟨b,⟨-,⟨h1,h2⟩|⟨g,cap,cur,h1,hb,hg,h3,h4,h5,h6⟩⟩,-⟩:=h
 ·exact ⟨none,0,by rw [h1,h2],by omega,fun h=>by omega⟩
 refine ⟨_,cap,h1,h3,fun h0=>⟨g,0,l.map Value.string,rfl,trivial,Ad hg, ?_,fun j u hj=> ?_⟩⟩
 ·clear h0 h1 h3 h4 h5 h6
  induction l with
  |nil=>exact .nil
  |cons a l ih=>exact .cons (c:= [.string a]) rfl ih
 rw [Nat.zero_add,Aa hg];have hj2:(cur.toList.take (l.length*1))[j]? =some u:=by rw [h6];exact hj
 exact WU
def WG(x:Bool):List Value:= [.bool x]
theorem boL(x:Bool):(WG x).length=1:=rfl
theorem bo1(x:Bool):∀u∈WG x,u.oneCell'=true:=by intro u hu;simp [WG] at hu;rw [hu];rfl
def SV(x:Option Addr×Nat×Nat):List Value:= [.slice x.1 x.2.1 x.2.2]
theorem slL(x:Option Addr×Nat×Nat):(SV x).length=1:=rfl
theorem sl1(x:Option Addr×Nat×Nat):∀u∈SV x,u.oneCell'=true:=by intro u hu;simp [SV] at hu;rw [hu];rfl
theorem Dz.keep{α:Type}{t:TypeId}{size:Nat}{enc:α→List Value}{ts:List TypeId}{W W':World}{b:Nat}{l:List α}{a:Option Addr}{cap:Nat}(h:Dz t size enc W b l a cap)(hk:KT ts W W')(ht:t∉ts):Dz t size enc W' b l a cap:=h.kp fun g c hg _=>(hk.at hg ht).trans hg.symm
theorem Dz.slice{α:Type}{t:TypeId}{size:Nat}{enc:α→List Value}{E:World→(Nat→Prop)→α→List Value→Prop}{W:World}{b:Nat}{l:List α}{a:Option Addr}{cap:Nat}(h:Dz t size enc W b l a cap)(hE:∀x,E W (fun _=>True) x (enc x)):Aq E W (fun _=>True) l (.slice a l.length cap):=by
 rcases h.2 with ⟨h1,h2⟩|⟨g,cap',cur,h1,hb,hg,h3,h4,h5,h6⟩
 ·exact ⟨a,cap,rfl,h.cap,fun h=>by omega⟩
 simp at h1;refine ⟨a,cap,rfl,h.cap,fun h0=>⟨g,0,l.flatMap enc,h1.1,trivial,Ad hg, ?_,fun j u hj=> ?_⟩⟩
 ·clear h h0 h1 h3 h4 h5 h6
  induction l with
  |nil=>exact .nil
  |cons x l ih=>exact .cons (hE x) ih
 rw [Nat.zero_add,Aa hg];have hj2:(cur.toList.take (l.length*size))[j]? =some u:=by rw [h6];exact hj
 exact WU
theorem Dz.kpU{α:Type}{t:TypeId}{size:Nat}{enc:α→List Value}{W W':World}{b U:Nat}{l:List α}{a:Option Addr}{cap:Nat}(h:Dz t size enc W b l a cap)(hu:∀g,a=some ⟨g,0,none⟩→g<U)(hk:∀k,k<U→W'.heap[k]? =W.heap[k]?):Dz t size enc W' b l a cap:=
 Ge h fun g hg=>by
  rcases h.2 with ⟨h1,-⟩|⟨g',cap',cur,h1,hb,hh,-⟩
  ·simp at h1;rw [h1.1] at hg;simp [Value.ownBlock] at hg
  simp at h1;rw [h1.1] at hg;simp [Value.ownBlock] at hg;subst hg;exact hk _ (hu _ h1.1)
theorem DF{ts:List TypeId}{w0 a b:World}(h:Ac [] w0 a)(k:KT ts a b)(h0:∀k,k<w0.heap.size→b.heap[k]? =a.heap[k]?):Ac [] w0 b:=
 ⟨k.os.trans h.os,k.tape.trans h.tape,k.output.trans h.output,Nat.le_trans h.size k.size,fun i hi hm=>(h0 i hi).trans (h.block i hi hm)⟩
def Fe(W:World)(b U:Nat)(acc:List (List Bool))(a:Option Addr)(c:Nat):Prop:=
 ∃vs:List (Option Addr×Nat×Nat),Dz 36 1 SV W b vs a c∧vs.length=acc.length∧∀(i:Nat) (v:Option Addr×Nat×Nat),vs[i]? =some v→(∀g,v.1=some ⟨g,0,none⟩→g<U)∧∃l b',acc[i]? =some l∧v.2.1=l.length∧Dz 4 1 WG W b' l v.1 v.2.2
theorem Fe.nil{W:World}{b U:Nat}:Fe W b U [] none 0:=⟨[],Dz.nil,rfl,fun i v h=>by simp at h⟩
theorem Fe.keep{ts:List TypeId}{W W':World}{b U:Nat}{acc:List (List Bool)}{a:Option Addr}{c:Nat}(h:Fe W b U acc a c)(hk:KT ts W W')(h1:36∉ts)(h2:4∉ts):Fe W' b U acc a c:=by
 obtain ⟨vs,h3,h4,h5⟩:=h;exact ⟨vs,h3.keep hk h1,h4,fun i v hv=>by obtain ⟨h6,l,b',h7,h8,h9⟩:=h5 i v hv;exact ⟨h6,l,b',h7,h8,h9.keep hk h2⟩⟩
theorem Fe.keepU{W W':World}{b U:Nat}{acc:List (List Bool)}{a:Option Addr}{c:Nat}(h:Fe W b U acc a c)(hk:KT [4] W W')(h0:∀k,k<U→W'.heap[k]? =W.heap[k]?):Fe W' b U acc a c:=by
 obtain ⟨vs,h3,h4,h5⟩:=h;exact ⟨vs,h3.keep hk qg,h4,fun i v hv=>by obtain ⟨h6,l,b',h7,h8,h9⟩:=h5 i v hv;exact ⟨h6,l,b',h7,h8,h9.kpU h6 h0⟩⟩
theorem Fe.slice{W:World}{b U:Nat}{acc:List (List Bool)}{a:Option Addr}{c:Nat}(h:Fe W b U acc a c):Aq Hl W (fun _=>True) acc (.slice a acc.length c):=by
 obtain ⟨vs,h3,h4,h5⟩:=h
 have hE:De (Hl W fun _=>True) acc (vs.flatMap SV):=by
  clear h3
  induction vs generalizing acc with
  |nil=>
   have:acc= []:=by simpa using h4.symm
   subst this;exact .nil
  | cons v vs ih=>
   cases acc with
   |nil=>simp at h4
   |cons l acc=>
    obtain ⟨-,l',b',h6,h7,h8⟩:=h5 0 v rfl;simp at h6;subst h6;rw [List.flatMap_cons];refine .cons ⟨v.1,v.2.2,by rw [SV,h7],h8.slice fun x=>rfl⟩ (ih (by simpa using h4) fun i u hu=> ?_);obtain ⟨h8,l2,b2,h9,h10⟩:=h5 (i+1) u (by simpa using hu);exact ⟨h8,l2,b2,by simpa using h9,h10⟩
 rcases h3.2 with ⟨h1,h2⟩|⟨g,cap',cur,h1,hb,hg,h6,h7,h8,h9⟩
 ·exact ⟨a,c,rfl,by rw [←h4];exact h3.cap,fun h=>by omega⟩
 simp at h1;refine ⟨a,c,rfl,by rw [←h4];exact h3.cap,fun h0=>⟨g,0,vs.flatMap SV,h1.1,trivial,Ad hg,hE,fun j u hj=> ?_⟩⟩;rw [Nat.zero_add,Aa hg];have hj2:(cur.toList.take (vs.length*1))[j]? =some u:=by rw [h9];exact hj
 exact WU
theorem Fe.up{W:World}{b U U':Nat}{acc:List (List Bool)}{a:Option Addr}{c:Nat}(h:Fe W b U acc a c)(hU:U≤U'):Fe W b U' acc a c:=by
 obtain ⟨vs,h3,h4,h5⟩:=h;exact ⟨vs,h3,h4,fun i v hv=>by obtain ⟨h6,h7⟩:=h5 i v hv;exact ⟨fun g hg=>Nat.lt_of_lt_of_le (h6 g hg) hU,h7⟩⟩
theorem Fe.app{W0 W W':World}{b U b':Nat}{acc:List (List Bool)}{vs:List (Option Addr×Nat×Nat)}{a':Option Addr}{c':Nat}{l:List Bool}{la:Option Addr}{lc:Nat}(hk0:Ac [] W0 W)(hk:KT [36] W W')(hU:U≤W0.heap.size)(h4:vs.length=acc.length)(h5:∀(i:Nat) (v:Option Addr×Nat×Nat),vs[i]? =some v→(∀g,v.1=some ⟨g,0,none⟩→g<U)∧∃l b',acc[i]? =some l∧v.2.1=l.length∧Dz 4 1 WG W0 b' l v.1 v.2.2)(hl:Dz 4 1 WG W0 b' l la lc)(hr:Dz 36 1 SV W' b (vs++ [(la,l.length,lc)]) a' c'):Fe W' b W'.heap.size (acc++ [l]) a' c':=by
 have hkk:KT [36] W0 W':=(KT.of0 hk0).trans hk;refine ⟨_,hr,by simp [h4],fun i v hv=> ?_⟩
 by_cases hi:i<vs.length
 ·rw [List.getElem?_append_left hi] at hv;obtain ⟨h6,l',b2,h7,h8,h9⟩:=h5 i v hv;exact ⟨fun g hg=>Nat.lt_of_lt_of_le (h6 g hg) (Nat.le_trans hU hkk.size),l',b2,by rw [List.getElem?_append_left jh];exact h7,h8,h9.keep hkk qg⟩
 have hlt:=(List.getElem?_eq_some_iff.1 hv).1;simp at hlt;have hie:i=vs.length:=by omega
 subst hie;rw [List.getElem?_concat_length] at hv
 cases hv
 refine ⟨fun g hg=>Nat.lt_of_lt_of_le ?_ hkk.size,l,b',by rw [h4,List.getElem?_concat_length],rfl,hl.keep hkk qg⟩
 rcases hl.2 with ⟨h1,-⟩|⟨g',cap',cur,h1,hb,hh,-⟩
 ·simp at h1;rw [h1.1] at hg;cases hg
 simp at h1;rw [h1.1] at hg;cases hg;exact Ad hh
def DcN(K:Br)(A:DA)(y:DX)(st:DS)(kf:List Int)(fin:List ByteArray×List ByteArray)(w:World)(B O:Nat)(g:Nat)(j:Value)(W:World):Prop:=
 ∃(k:Nat) (sc ar:List ByteArray) (vs va:Value),j= .int .i64 k∧k≤st.things.length∧g=st.things.length+1 -k∧Gk st kf k (st.things.drop k) sc ar=some fin∧sc.length≤k∧ar.length≤k∧BP W sc vs∧BP W ar va∧DK K A y st W∧W.heap[B]? =some (LK kf)∧W.heap[O]? =some (.cells #[vs,va,.slice none 0 0] 72 (0,0))
def DcF(K:Br)(y:DX)(st:DS)(kf:List Int)(ps:List (List Bool))(sc ar:List ByteArray)(vs va:Value)(B O:Nat)(g:Nat)(j:Value)(W:World):Prop:=
 ∃(k:Nat) (A:DA) (acc rest:List (List Bool)) (pa:Option Addr) (pc:Nat),j= .int .i64 k∧k≤K.g.funcs.length∧g=K.g.funcs.length+1 -k∧Ka st kf k (K.g.funcs.drop k)=some rest∧acc++rest=ps∧acc.length=k∧Fe W K.w0.heap.size W.heap.size acc pa pc∧BP W sc vs∧BP W ar va∧DK K A y st W∧W.heap[B]? =some (LK kf)∧W.heap[O]? =some (.cells #[vs,va,.slice pa acc.length pc] 72 (0,0))
def DcP(K:Br)(y:DX)(st:DS)(kf:List Int)(i:Nat)(params:List ByteArray)(xs:List Bool)(acc:List (List Bool))(pa:Option Addr)(pc:Nat)(sc ar:List ByteArray)(vs va:Value)(B O U:Nat)(g:Nat)(lv j:Value)(W:World):Prop:=
 ∃(k:Nat) (A:DA) (l rest:List Bool) (la:Option Addr) (lc:Nat),j= .int .i64 k∧k≤params.length∧g=params.length+1 -k∧lv= .slice la l.length lc∧Mm st kf i (params.drop k)=some rest∧l++rest=xs∧l.length=k∧Dz 4 1 WG W U l la lc∧U≤W.heap.size∧Fe W K.w0.heap.size U acc pa pc∧BP W sc vs∧BP W ar va∧DK K A y st W∧W.heap[B]? =some (LK kf)∧W.heap[O]? =some (.cells #[vs,va,.slice pa acc.length pc] 72 (0,0))
theorem dc1{p:Prop}(h:p:=by
 go_wp2_with fail
 go_loopg [8] (st3.things.length+1) (fun g j wr=>DcN K A1 y st3 kf fin w B O g j wr)
 case atStart=>exact ⟨0,[],[],_,_,rfl,Nat.zero_le _,rfl,HNM.1,Nat.le_refl _,Nat.le_refl _,BP.nil,BP.nil,HD.1.kp0 Av,Ac.at (fp:= []) Av HR.1 qg,Ac.at (fp:= []) Av HO.1 qg⟩
 clear HD HR HO HNM;obtain ⟨k,sc,ar,vs,va,rfl,hk1,hk2,he,hls,hla,hns,hna,hd,hb,ho⟩:=hrel;have HD:=zh hd;have HR:=zh hb;have HO:=zh ho;have HNS:=zh hns;have HNA:=zh hna;have HE:=zh he;clear hd hb ho hns hna he;obtain ⟨l_c,c0,c1,c2,c3,c4,c5,c6,c7,c8,c9,y0,y1,y2,y3,y4,y5,y6,y7,y8,y9⟩:=Ke HD.1.row;have hcap:=HD.1.things.cap;clear c0 c1 c3 c4 c5 c6 c7 c8 c9 y0 y1 y3 y4 y5 y6 y7 y8 y9;have htl:=HI.1.1
 by_cases hlt:k<st3.things.length
 ·cases gk with
  |zero=>omega
  | succ f=>
   obtain ⟨g2,hta,l2,-,-,d0,d1,d2⟩:=HD.1.thing (List.getElem?_eq_getElem hlt);rw [hta] at c2;have h:=HE.1;rw [List.drop_eq_getElem_cons hlt] at h;have hcs:=Ua h;clear h HE;generalize hq:st3.things[k]=q at*
   obtain ⟨z,hz⟩:∃z:Int,z=(q.t.1:Int) -1:=⟨_,rfl⟩;rw [←hz] at d0
   rcases hcs with ⟨hp,hn⟩|⟨h0,r,v,hr,hv,hcs⟩
   ·have hge:0≤z:=by omega
    clear hz
    go_wp2_with fail
    go_roundg f
    case measure=>omega
    case rel=>exact zzc
   have hge:¬0≤z:=by omega
   have hlz:z<0:=by omega
   have HV:=zh hv;clear hz h0 hv
   go_wp2_with fail
   refine (Hw HD.1 HI.1.1 hr).mono ?_;rintro r9 w8 ⟨rfl,hk⟩;replace HD:=zh (HD.1.kp0 hk);replace HR:=zh (hk.at HR.1 qg);replace HO:=zh (hk.at HO.1 qg);replace HNS:=zh (HNS.1.kp (KT.of0 (ts:= []) hk) qg);replace HNA:=zh (HNA.1.kp (KT.of0 (ts:= []) hk) qg);clear hk hge hlz d0 d1 d2 c2 y2 l_c l2 hcap hr;have hrn:r<st3.things.length:=by rw [←HKL.1];exact (List.getElem?_eq_some_iff.1 HV.1).1
   have kc:w8.cell? ⟨B,r,none⟩=some (.int .i64 v):=by rw [Aa HR.1 r];simp [HV.1]
   have l_B:=Ad HR.1
   rcases hcs with ⟨hv2,hn⟩|⟨hv2,hs,hn⟩|⟨hv2,hs,hn⟩
   ·have e2:(v==2)=true:=by rw [hv2];rfl
    clear hv2
    go_upto_region 17 with fail
    obtain ⟨l_c,c0,c1,c2,c3,c4,c5,c6,c7,c8,c9,y0,y1,y2,y3,y4,y5,y6,y7,y8,y9⟩:=Ke HD.1.row;obtain ⟨g3,hta3,l3,-,-,e0,e1,-⟩:=HD.1.thing (List.getElem?_eq_getElem hlt);rw [hta3] at c2;rw [hq] at e1;have hcap:=HD.1.things.cap;obtain ⟨l_O,x0,x1,x2,z0,z1,z2⟩:=Lr HO.1;clear c0 c1 c3 c4 c5 c6 c7 c8 c9 y0 y1 y3 y4 y5 y6 y7 y8 y9 e0
    go_still_tail 10,qh
    change wpList _ _ _ _ _ w8.drew
    have hdr:Ac [] w8 w8.drew:=Ac.drew [] w8;replace HD:=zh (HD.1.kp0 hdr);replace HR:=zh (hdr.at HR.1 qg);replace HO:=zh (hdr.at HO.1 qg);replace HNS:=zh (HNS.1.kp (KT.of0 (ts:= []) hdr) qg);replace HNA:=zh (HNA.1.kp (KT.of0 (ts:= []) hdr) qg);clear hdr l_c c2 y2 l_O x0 x1 x2 z0 z1 z2 l3 e1;generalize w8.drew=wd at*
    obtain ⟨b9,hb9,hn9⟩:=HNA.1
    go_wp2_with fail
    refine (IL hb9 hn9 jh).mono ?_;rintro r9 w9 ⟨v',rfl,ho9,hk9⟩;replace HD:=zh (HD.1.kp0 hk9);replace HR:=zh (hk9.at HR.1 qg);replace HO:=zh (hk9.at HO.1 qg);replace HNS:=zh (HNS.1.kp (KT.of0 (ts:= []) hk9) qg);replace HNA:=zh (HNA.1.kp (KT.of0 (ts:= []) hk9) qg);have hln:(Ep q.t.2 ar).length=ar.length+1:=by have:=(Ht q.t.2 ar).length_eq;simpa using this
    have HNW:=zh (show BP w9 (Ep q.t.2 ar) v' from ⟨_,ho9,fun h=>by rw [h] at hln;simp at hln⟩);have HLN:=zh hln;obtain ⟨l_O,x0,x1,x2,z0,z1,z2⟩:=Lr HO.1;clear hb9 hn9 ho9 hk9 hln;obtain ⟨a9,c9,hv9⟩:=HNW.1.shape;subst hv9
    go_wp2_with fail
    go_roundg f
    case measure=>omega
    case rel=>exact ⟨k+1,sc,Ep q.t.2 ar,vs,_,by first|rfl|(simp;done)|(simp;omega),by omega,by omega,hn,by omega,by rw [HLN.1];omega,HNS.1.kp (KT.ofOne (ts:= [72]) Av HO.1 qg) qg,HNW.1.kp (KT.ofOne (ts:= [72]) Av HO.1 qg) qg,HD.1.kpB Av HO.1 HO0.1 qg,KT.at (ts:= [72]) (KT.ofOne Av HO.1 qg) HR.1 qg,Kj HO.1⟩
   ·have e2:(v==2)=false:=beq_false_of_ne hv2;obtain ⟨l_c,c0,c1,c2,c3,c4,c5,c6,c7,c8,c9,y0,y1,y2,y3,y4,y5,y6,y7,y8,y9⟩:=Ke HD.1.row;obtain ⟨g3,hta3,l3,-,-,e0,e1,-⟩:=HD.1.thing (List.getElem?_eq_getElem hlt);rw [hta3] at c2;rw [hq] at e1;have hcap:=HD.1.things.cap;clear hv2 c0 c1 c3 c4 c5 c6 c7 c8 c9 y0 y1 y3 y4 y5 y6 y7 y8 y9 e0
    go_wp2_with fail
    refine (Ia q.t.2 _).mono ?_;rintro r9 w' ⟨rfl,hw'⟩;rw [hw',hs];clear hw' w'
    go_wp2_with fail
    go_roundg f
    case measure=>omega
    case rel=>exact zzc
   have e2:(v==2)=false:=beq_false_of_ne hv2;obtain ⟨l_c,c0,c1,c2,c3,c4,c5,c6,c7,c8,c9,y0,y1,y2,y3,y4,y5,y6,y7,y8,y9⟩:=Ke HD.1.row;obtain ⟨g3,hta3,l3,-,-,e0,e1,-⟩:=HD.1.thing (List.getElem?_eq_getElem hlt);rw [hta3] at c2;rw [hq] at e1;have hcap:=HD.1.things.cap;clear hv2 c0 c1 c3 c4 c5 c6 c7 c8 c9 y0 y1 y3 y4 y5 y6 y7 y8 y9 e0
   go_wp2_with fail
   refine (Ia q.t.2 _).mono ?_;rintro r9 w' ⟨rfl,hw'⟩;rw [hw',hs];clear hw' w' l_c c2 y2 hcap hta3 l3 e1
   go_upto_region 19 with fail
   obtain ⟨l_c,c0,c1,c2,c3,c4,c5,c6,c7,c8,c9,y0,y1,y2,y3,y4,y5,y6,y7,y8,y9⟩:=Ke HD.1.row;obtain ⟨g3,hta3,l3,-,-,e0,e1,-⟩:=HD.1.thing (List.getElem?_eq_getElem hlt);rw [hta3] at c2;rw [hq] at e1;have hcap:=HD.1.things.cap;obtain ⟨l_O,x0,x1,x2,z0,z1,z2⟩:=Lr HO.1;clear c0 c1 c3 c4 c5 c6 c7 c8 c9 y0 y1 y3 y4 y5 y6 y7 y8 y9 e0
   go_still_tail 10,qh
   change wpList _ _ _ _ _ w8.drew
   have hdr:Ac [] w8 w8.drew:=Ac.drew [] w8;replace HD:=zh (HD.1.kp0 hdr);replace HR:=zh (hdr.at HR.1 qg);replace HO:=zh (hdr.at HO.1 qg);replace HNS:=zh (HNS.1.kp (KT.of0 (ts:= []) hdr) qg);replace HNA:=zh (HNA.1.kp (KT.of0 (ts:= []) hdr) qg);clear hdr l_c c2 y2 l_O x0 x1 x2 z0 z1 z2 l3 e1;generalize w8.drew=wd at*
   obtain ⟨b9,hb9,hn9⟩:=HNS.1
   go_wp2_with fail
   refine (IL hb9 hn9 jh).mono ?_;rintro r9 w9 ⟨v',rfl,ho9,hk9⟩;replace HD:=zh (HD.1.kp0 hk9);replace HR:=zh (hk9.at HR.1 qg);replace HO:=zh (hk9.at HO.1 qg);replace HNS:=zh (HNS.1.kp (KT.of0 (ts:= []) hk9) qg);replace HNA:=zh (HNA.1.kp (KT.of0 (ts:= []) hk9) qg);have hln:(Ep q.t.2 sc).length=sc.length+1:=by have:=(Ht q.t.2 sc).length_eq;simpa using this
   have HNW:=zh (show BP w9 (Ep q.t.2 sc) v' from ⟨_,ho9,fun h=>by rw [h] at hln;simp at hln⟩);have HLN:=zh hln;obtain ⟨l_O,x0,x1,x2,z0,z1,z2⟩:=Lr HO.1;clear hb9 hn9 ho9 hk9 hln;obtain ⟨a9,c9,hv9⟩:=HNW.1.shape;subst hv9
   go_wp2_with fail
   go_roundg f
   case measure=>omega
   case rel=>exact ⟨k+1,Ep q.t.2 sc,ar,_,va,by first|rfl|(simp;done)|(simp;omega),by omega,by omega,hn,by rw [HLN.1];omega,by omega,HNW.1.kp (KT.ofOne (ts:= [72]) Av HO.1 qg) qg,HNA.1.kp (KT.ofOne (ts:= [72]) Av HO.1 qg) qg,HD.1.kpB Av HO.1 HO0.1 qg,KT.at (ts:= [72]) (KT.ofOne Av HO.1 qg) HR.1 qg,Kj HO.1⟩
 have hke:k=st3.things.length:=by omega
 subst hke;have hfin:fin=(sc,ar):=by have h:=HE.1;rw [List.drop_length,Gk] at h;exact (Option.some.inj h).symm
 clear HE;exact dc2):p:=h
theorem dc2{p:Prop}(h:p:=by
 subst hfin;have hfs:=hK.small
 go_wp2_with fail
 clear l_c c2 y2 hcap
 go_loopg [10] (K.g.funcs.length+1) (fun g j wr=>DcF K y st3 kf ps sc ar vs va B O g j wr)
 case atStart=>exact ⟨0,_,[],_,none,0,rfl,Nat.zero_le _,rfl,HPS.1,rfl,rfl,Fe.nil,HNS.1.kp (KT.of0 (ts:= []) Av) qg,HNA.1.kp (KT.of0 (ts:= []) Av) qg,HD.1.kp0 Av,Ac.at (fp:= []) Av HR.1 qg,Ac.at (fp:= []) Av HO.1 qg⟩
 clear HD HR HO HNS HNA HPS hlt hk1 hk2 hls hla;obtain ⟨k,A1,acc,rest,pa,pc,rfl,hk1,hk2,he,hap,hal,hfl,hns,hna,hd,hb,ho⟩:=hrel;have HD:=zh hd;have HR:=zh hb;have HO:=zh ho;have HNS:=zh hns;have HNA:=zh hna;have HE:=zh he;have HF:=zh hfl;have HAP:=zh hap;have HAL:=zh hal;clear hd hb ho hns hna he hfl hap hal;have rG:=HD.1.keep.at HG0.1 qg;obtain ⟨l_G,x0,x1,z0,z1⟩:=Ki rG
 by_cases hlt:k<K.g.funcs.length
 ·cases gk with
  |zero=>omega
  | succ f=>
   obtain ⟨g2,o2,qa,qc,bt,bm,ba,bl,bc,br,bi,hfa,d0,d1,d2,d3,d4,d5,d6,d7,hp,hn,l2⟩:=HD.1.funcS hK hlt;have HP:=zh hp;have hps:=hK.psmall _ (List.getElem_mem hlt);have h:=HE.1;rw [List.drop_eq_getElem_cons hlt] at h;obtain ⟨xs,m,h1,h2,h3⟩:=Tz h;have HE1:=zh h1;have HE2:=zh h2;rw [hfa] at x1;have HAP2:=zh (show (acc++ [xs])++m=ps by rw [←HAP.1,h3];simp);clear hp hn HE h h1 h2 h3 HAP;generalize hq:K.g.funcs[k]=q at*
   clear rG d0 d1 d2 d3 d4 d5 d6 d7 l2
   go_wp2_with fail
   clear l_G x0 x1 z0 z1;obtain ⟨U,hU⟩:∃U,U=wr.heap.size:=⟨_,rfl⟩;have HUU:=zh (show K.w0.heap.size≤U by rw [hU];exact HD.1.keep.size);rw [←hU] at HF;have HUe:=zh hU;clear hU
   go_loopg [11,12] (q.params.length+1) (fun g lv j wr=>DcP K y st3 kf k q.params xs acc pa pc sc ar vs va B O U g lv j wr)
   case atStart=>exact ⟨0,_,[],_,none,0,rfl,Nat.zero_le _,rfl,rfl,HE1.1,rfl,rfl,Dz.nil,by rw [HUe.1];exact Ac.size (fp:= []) Av,HF.1.keep (KT.of0 (ts:= []) Av) qg qg,HNS.1.kp (KT.of0 (ts:= []) Av) qg,HNA.1.kp (KT.of0 (ts:= []) Av) qg,HD.1.kp0 Av,Ac.at (fp:= []) Av HR.1 qg,Ac.at (fp:= []) Av HO.1 qg⟩
   clear HD HR HO HNS HNA HE1 HF HUe;obtain ⟨k',A2,l,rest',la,lc,rfl,hk1',hk2',rfl,he,hap,hal,hrl,hul,hfl,hns,hna,hd,hb,ho⟩:=hrel;have HD:=zh hd;have HR:=zh hb;have HO:=zh ho;have HNS:=zh hns;have HNA:=zh hna;have HE:=zh he;have HF:=zh hfl;have HAPl:=zh hap;have HALl:=zh hal;have HRL:=zh hrl;clear hd hb ho hns hna he hfl hap hal hrl;have rG:=HD.1.keep.at HG0.1 qg;obtain ⟨l_G,x0,x1,z0,z1⟩:=Ki rG;obtain ⟨g2',o2',pa',pc',bt',bm',ba',bl',bc',br',bi',hfa',d0,d1,d2,d3,d4,d5,d6,d7,hp',hn,l2⟩:=HD.1.funcS hK hlt;rw [hfa] at hfa' x1
   cases hfa'
   rw [hq] at d1 hp';have HP':=zh hp';clear rG hp' hn x0 z0 d0 d2 d3 d4 d5 d6 d7
   by_cases hlt':k'<q.params.length
   ·cases gk with
    |zero=>omega
    | succ f'=>
     obtain ⟨g4,o4,hg4,s0⟩:=Rx HD.1.keep HP'.1 hlt';subst hg4;have h:=HE.1;rw [List.drop_eq_getElem_cons hlt'] at h;obtain ⟨j,r,v,m',h1,h2,h3,h4,h5⟩:=Xf h;have HO9:=zh (Oo hK HD.1 (k+1) hlt q.params[k'] (v:=(k:Int)) jh (i:=j) (st':=st3) (by rw [Vq hlt (by rw [hq];exact List.getElem_mem hlt')];unfold Um;rw [h1]) HI.1.1);have HRT:=zh h2;have HV:=zh h3;have HE4:=zh h4;have HAP4:=zh (show (l++ [v==2])++m'=xs by rw [←HAPl.1,h5];simp);clear HE h h1 h2 h3 h4 h5 HAPl;generalize q.params[k']=s at*
     go_wp2_with fail
     refine HO9.1.mono ?_;rintro r9 w7 ⟨ta,tc,rfl,hd,hs⟩;replace HD:=zh hd;replace HR:=zh (hs.at HR.1 qg);replace HO:=zh (hs.at HO.1 qg);replace HNS:=zh (HNS.1.kp hs qg);replace HNA:=zh (HNA.1.kp hs qg);replace HF:=zh (HF.1.keep hs qg qg);replace HRL:=zh (HRL.1.keep hs qg);have HS7:=zh hs.size;clear hd hs HO9 l_G x1 z1 d1 l2 s0
     go_wp2_with fail
     refine (Hw HD.1 HI.1.1 HRT.1).mono ?_;rintro r9 w8 ⟨rfl,hk⟩;replace HD:=zh (HD.1.kp0 hk);replace HR:=zh (hk.at HR.1 qg);replace HO:=zh (hk.at HO.1 qg);replace HNS:=zh (HNS.1.kp (KT.of0 (ts:= []) hk) qg);replace HNA:=zh (HNA.1.kp (KT.of0 (ts:= []) hk) qg);replace HF:=zh (HF.1.keep (KT.of0 (ts:= []) hk) qg qg);replace HRL:=zh (HRL.1.keep (KT.of0 (ts:= []) hk) qg);have HU8:=zh (Nat.le_trans hul (Nat.le_trans HS7.1 hk.size));clear hk HS7 hul;have hrn:r<st3.things.length:=by rw [←HKL.1];exact (List.getElem?_eq_some_iff.1 HV.1).1
     have kc:w8.cell? ⟨B,r,none⟩=some (.int .i64 v):=by rw [Aa HR.1 r];simp [HV.1]
     have l_B:=Ad HR.1;have htl:=HI.1.1;have hll:l.length≤1000000:=by rw [HALl.1];omega
     obtain ⟨i4,hi4⟩:=WE;have HI4:=zh hi4;clear hi4
     go_wp2_with (
      at_builtin
      go_loud (
       refine Hz (fun W=>Ac [] w8 W∧W.heap[w8.heap.size]? =some (.cells (WG (v==2)).toArray 4 (0,0))) ⟨Av,Nv⟩ ?_;rintro we ⟨hka,cG⟩;refine IG boL bo1 rfl (.tmp 133) (.tmp 152) rfl Tryz.underlying36 HI4.1.1 HI4.1.2.1 HI4.1.2.2.1 HI4.1.2.2.2 rfl zi zi rfl rfl (HRL.1.keep (KT.of0 (ts:= []) hka) qg) (x:=(v==2)) ⟨_,cG⟩ (Nat.le_trans HU8.1 hka.size) hll ?_;rintro g9 cp9 w9 ⟨hro,hkt,hgt,hk0⟩;have hkt2:=(KT.of0 (ts:= [4]) hka).trans hkt;have hlow:∀k,k<U→w9.heap[k]? =w8.heap[k]? :=fun k hk=>(hk0 k hk).trans (hka.block k (Nat.lt_of_lt_of_le hk HU8.1) qg)
       replace HD:=zh (HD.1.kp hkt2 (DF HD.1.keep hkt2 fun k hk=>hlow k (Nat.lt_of_lt_of_le hk HUU.1)) qg qg qg qg);replace HR:=zh (hkt2.at HR.1 qg);replace HO:=zh (hkt2.at HO.1 qg);replace HNS:=zh (HNS.1.kp hkt2 qg);replace HNA:=zh (HNA.1.kp hkt2 qg);replace HF:=zh (HF.1.keepU hkt2 hlow);replace HRL:=zh hro;have HU9:=zh (Nat.le_trans HU8.1 hkt2.size);clear hkt2 hlow hro hkt hgt hk0 hka cG))
     go_roundg f'
     case measure=>omega
     case rel=>exact ⟨k'+1,_,l++ [v==2],m',_,_,by first|rfl|(simp;done)|(simp;omega),by omega,by omega,by simp,HE4.1,HAP4.1,by simp [HALl.1],HRL.1.keep (KT.of0 (ts:= []) Av) qg,Nat.le_trans HU9.1 (Ac.size (fp:= []) Av),HF.1.keep (KT.of0 (ts:= []) Av) qg qg,HNS.1.kp (KT.of0 (ts:= []) Av) qg,HNA.1.kp (KT.of0 (ts:= []) Av) qg,HD.1.kp0 Av,Ac.at (fp:= []) Av HR.1 qg,Ac.at (fp:= []) Av HO.1 qg⟩
   have hke:k'=q.params.length:=by omega
   subst hke;have hxs:l=xs:=by have h:=HE.1;rw [List.drop_length,Mm] at h;have:=HAPl.1;cases h;simpa using this
   subst hxs;obtain ⟨vs9,h3,h4,h5⟩:=HF.1;rw [←h4] at HO;have HF3:=zh h3;have HF4:=zh h4;have HF5:=zh h5;have hvl:vs9.length≤1000000:=by rw [h4,HAL.1];omega
   clear h3 h4 h5 HF HE HAPl;obtain ⟨i36,hi36⟩:=PK;have HI36:=zh hi36;clear hi36;obtain ⟨l_O,b0,b1,b2,v0,v1,v2⟩:=Lr HO.1
   go_wp2_with (
    at_builtin
    go_loud (
     refine Hz (fun W=>Ac [] wr W∧W.heap[wr.heap.size]? =some (.cells (SV (la,l.length,lc)).toArray 36 (0,0))) ⟨Av,Nv⟩ ?_;rintro we ⟨hka,cG⟩;refine IG slL sl1 rfl (.tmp 155) (.tmp 157) rfl Tryz.underlying23 HI36.1.1 HI36.1.2.1 HI36.1.2.2.1 HI36.1.2.2.2 rfl zi zi rfl rfl (HF3.1.keep (KT.of0 (ts:= []) hka) qg) (x:=(la,l.length,lc)) ⟨_,cG⟩ (Nat.le_trans HD.1.keep.size hka.size) hvl ?_;rintro g9 cp9 w9 ⟨hro,hkt,hgt,hk0⟩;have hkt2:=(KT.of0 (ts:= [36]) hka).trans hkt;have HF9:=zh (Fe.app hka hkt hul HF4.1 HF5.1 HRL.1 hro);replace HD:=zh (HD.1.kp hkt2 (DF HD.1.keep hkt2 fun k hk=>(hk0 k hk).trans (hka.block k (Nat.lt_of_lt_of_le hk HD.1.keep.size) qg)) qg qg qg qg);replace HR:=zh (hkt2.at HR.1 qg);replace HO:=zh (hkt2.at HO.1 qg);replace HNS:=zh (HNS.1.kp hkt2 qg);replace HNA:=zh (HNA.1.kp hkt2 qg);obtain ⟨l_O,b0,b1,b2,v0,v1,v2⟩:=Lr HO.1;clear hkt2 hro hkt hgt hk0 hka cG))
   go_roundg f
   case measure=>omega
   case rel=>exact ⟨k+1,_,acc++ [l],m,some ⟨g9,0,none⟩,cp9,by first|rfl|(simp;done)|(simp;omega),by omega,by omega,HE2.1,HAP2.1,by simp [HAL.1],(HF9.1.keep (KT.ofOne (ts:= [72]) Av HO.1 qg) qg qg).up (Ac.size (fp:= [O]) Av),HNS.1.kp (KT.ofOne (ts:= [72]) Av HO.1 qg) qg,HNA.1.kp (KT.ofOne (ts:= [72]) Av HO.1 qg) qg,HD.1.kpB Av HO.1 HO0.1 qg,KT.at (ts:= [72]) (KT.ofOne Av HO.1 qg) HR.1 qg,by rw [List.length_append,←HF4.1];exact Kj HO.1⟩
 have hke:k=K.g.funcs.length:=by omega
 subst hke;have hps9:acc=ps:=by have h:=HE.1;rw [List.drop_length,Ka] at h;have:=HAP.1;cases h;simpa using this
 subst hps9;obtain ⟨sa,sc9,hvs⟩:=HNS.1.shape;obtain ⟨aa,ac9,hva⟩:=HNA.1.shape;subst hvs;subst hva;have rR:=HD.1.keep.at HRR0.1 qg;obtain ⟨l_R,xR_0,xR_1,xR_2,yR_0,yR_1,yR_2⟩:=Lr rR;obtain ⟨l_O,b0,b1,b2,v0,v1,v2⟩:=Lr HO.1;clear rG
 go_wp2_with fail
 refine Ap (v:= .tuple #[.agg #[.slice sa sc.length sc9,.slice aa ar.length ac9,.slice pa acc.length pc],.complex .f64 0 0,.int .i64 0]) (fun W=>Ac [RR] wr W∧W.heap[RR]? =some (.cells #[.slice sa sc.length sc9,.slice aa ar.length ac9,.slice pa acc.length pc] 72 (0,0))) ⟨Av,Kj rR⟩ (fun W hW=> ?_) rfl (fun W hW=> ?_)
 ·have hW:W.heap[RR]? =some (.cells #[.slice sa sc.length sc9,.slice aa ar.length ac9,.slice pa acc.length pc] 72 (0,0)):=hW.2;have q0:=Aa hW 0;have q1:=Aa hW 1;have q2:=Aa hW 2;simp at q0 q1 q2;exact qxc
 have hk9:KT [72] wr W:=KT.ofOne hW.1 rR qg;exact ⟨_,rfl,⟨sa,sc9,aa,ac9,pa,pc,rfl,(HNS.1.kp hk9 qg).slice,(HNA.1.kp hk9 qg).slice,(HF.1.keep hk9 qg qg).slice⟩,HKR.1 HD.1.keep hW.1⟩):p:=h
theorem JM(g:Ah):∀(l:List Az) (i:Nat),Cz (Ov g i l)
 | [],i=>Cz.none
 |f::l,i=>(((Cz.ite (Cz.some zi) Cz.none).or (Cz.ite (Cz.some zi) Cz.none)).or (BG _ _ _ _)).or (JM g l _)
theorem Re{st:DS}{k:List Int}{f:Ic}:∀{l:List Gq} {i:Nat},Cj st k i l=some (some f)→f.1≠0
 | [],i,h=>by rw [Cj] at h;cases h
 | u::l,i,h=>by
   rw [Cj,Option.bind_eq_some_iff] at h;obtain ⟨b,h1,h2⟩:=h
   cases b with
   |true=>rw [if_pos rfl] at h2;cases h2;exact (by decide:(30:Int)≠0)
   |false=>rw [if_neg qg] at h2;exact Re h2
theorem QA{p:Prop}(h:p:=by
 have rR:=HD.1.keep.at HRR0.1 qg;obtain ⟨l_R,xR_0,xR_1,xR_2,yR_0,yR_1,yR_2⟩:=Lr rR;obtain ⟨l_c,c0,c1,c2,c3,c4,c5,c6,c7,c8,c9,y0,y1,y2,y3,y4,y5,y6,y7,y8,y9⟩:=Ke HD.1.row;clear c0 c1 c2 c3 c4 c7 c8 c9 y0 y1 y2 y3 y4 y7 y8 y9
 go_cut [3,4] (fun s3 s4 W=>s3= .complex .f64 y.re y.im∧s4= .int .i64 y.e∧Ac [RR] wd W∧W.heap[RR]? =some (.cells #[.slice none 0 0,.slice none 0 0,.slice none 0 0] 72 (0,0)))
 case first=>
  go_region
  all_goals
   go_wp2_with fail
   go_meet
   case rel=>exact ⟨rfl,rfl,Av,Kj rR⟩
 obtain ⟨rfl,rfl,k8,c8⟩:=hcut;generalize wc=w8 at*
 have h8:=zh c8;have hk8:=zh k8;clear l_c c5 c6 y5 y6 rR l_R xR_0 xR_1 xR_2 yR_0 yR_1 yR_2 c8 k8
 go_wp2_with fail
 refine Ap (v:= .tuple #[.agg #[.slice none 0 0,.slice none 0 0,.slice none 0 0],.complex .f64 y.re y.im,.int .i64 y.e]) (fun W=>Ac [] w8 W) Av (fun W hW=> ?_) rfl (fun W hW=> ?_)
 ·have hW:Ac [] w8 W:=hW;have rq:=hW.at h8.1 qg;exact jwe
 have hW:Ac [] w8 W:=hW;rw [HTE.1];exact ⟨_,rfl,⟨none,0,none,0,none,0,rfl,Aq.nil,Aq.nil,Aq.nil⟩,HKR.1 HD.1.keep (hk8.1.trans hW qg)⟩):p:=h
set_option maxHeartbeats 8000000 in
theorem GJ{g:Ah}{t:Ox}{w:World}{S:Nat→Prop}{v:Value}(hv:Iu w S g v)(hwf:WH g)(hk7:∀r∈g.rules,r.kind≤7)(hx:Ns g=some t):Calls Tryz.prog 28 #[v] w fun r w'=>∃iv,r= .returned (.tuple #[iv,.complex .f64 t.re t.im,.int .i64 t.e])∧AA w' (fun _=>True) t.info iv∧Ac [] w w':=by
 obtain ⟨ra,rc,fa,fc,rfl,hr,hf⟩:=hv;have HPR:=zh (hr.to Dh (T:=fun _=>True) fun _ _=>trivial);have HPF:=zh (hf.to Es (T:=fun _=>True) fun _ _=>trivial);have HX:=zh hx;have HWF0:=zh hwf;have HK7:=zh hk7;clear hr hf hx hwf hk7
 go_enter Tryz.func28,Tryz.ntmps28
 go_upto_region 1 with fail
 refine Bj (fun W=>Ac [] w W∧W.heap[w.heap.size]? =some (.cells #[.slice ra g.rules.length rc,.slice fa g.funcs.length fc] 33 (0,0))∧W.heap[w.heap.size+1]? =some (.cells #[.slice none 0 0,.slice none 0 0,.slice none 0 0] 72 (0,0))) ⟨Av,Nv,Nv⟩ ?_;rintro w1 ⟨k1,cP,cR⟩;obtain ⟨G,hG⟩:∃x,x=w.heap.size:=⟨_,rfl⟩;rw [←hG] at cP⊢;obtain ⟨RR,hRR⟩:∃x,x=w.heap.size+1:=⟨_,rfl⟩;rw [←hRR] at cR;rw [hG,←hRR,←hG];have o_R:w.heap.size≤RR:=by omega
 clear hG hRR;have HK1:=zh k1;have HRR:=zh cR;have HGG:=zh cP;have HPR1:=zh (HPR.1.kp Dh k1 qg);have HPF1:=zh (HPF.1.kp Es k1 qg);obtain ⟨l_P,xP_0,xP_1,yP_0,yP_1⟩:=Ki cP;clear k1 cP cR HPR HPF
 go_wp2_with fail
 refine An (fun W=>Ac [] w1 W∧W.heap[w1.heap.size]? =some (.cells #[.slice ra g.rules.length rc,.slice fa g.funcs.length fc,.slice none 0 0,.slice none 0 0,.slice none 0 0,.int .i64 0,.complex .f64 0 0,.int .i64 0,.int .i64 0,.int .i64 0] 114 (0,0))) ⟨Av,Nv⟩ ?_;rintro w2 ⟨k2,rc2⟩;clear l_P xP_0 xP_1 yP_0 yP_1;obtain ⟨K,hKd⟩:∃K:Br,K=⟨g,w1,w1.heap.size,ra,rc,fa,fc⟩:=⟨_,rfl⟩;have eg:K.g=g:=by rw [hKd]
 have e0:K.w0=w1:=by rw [hKd]
 have ec:w1.heap.size=K.c:=by rw [hKd]
 have hsz:=HWF0.1.size
 have hK:Ff K:=by
  subst hKd;refine ⟨HPR1.1,HPF1.1,Nat.le_refl _, ?_, ?_,fun f hf=> ?_,fun r hr=> ?_⟩
  ·have:=Oj g.funcs;show g.funcs.length≤_;omega
  ·have:=Sa g.rules;show g.rules.length≤_;omega
  ·have:=Sd (l:=g.funcs) hf;omega
  have h1:=Vm (l:=g.rules) hr;have h2:=Jl r.pats;omega
 have hd0:DK K ⟨none,0,none,0,none,0⟩ ⟨0,0,0,0,0,0⟩ MT w2:=by
  subst hKd;exact ⟨k2,rc2,Dz.nil,Dz.nil,Dz.nil⟩
 have HD0:=zh hd0;have HKR:Hd (∀{W W':World},Ac [] K.w0 W→Ac [RR] W W'→Ac [] w W'):=zh fun h1 h2=>HK1.1.trans (fp':= [RR]) ((e0▸h1.weaken (fp':= [RR]) qg).trans h2 (fun _ h=> .inl h)) (by simpa using o_R)
 have HRR0:Hd (K.w0.heap[RR]? =some (.cells #[.slice none 0 0,.slice none 0 0,.slice none 0 0] 72 (0,0))):=zh (by rw [e0];exact HRR.1);have HG0:Hd (K.w0.heap[G]? =some (.cells #[.slice K.ra K.g.rules.length K.rc,.slice K.fa K.g.funcs.length K.fc] 33 (0,0))):=zh (by subst hKd;exact HGG.1);rw [←eg] at HX HWF0 HK7;have HWF:=HWF0;rw [ec];clear hKd e0 ec k2 rc2 hd0 HPR1 HPF1 HRR HK1 HGG HWF0 hsz eg o_R;refine (GH hK HD0.1).mono ?_;rintro r w3 ⟨rfl,hd,-⟩;have hx:=HX.1;unfold Ns at hx
 cases hh:Ov K.g 0 K.g.funcs with
 | some f=>
  rw [hh] at hx hd;have hok:=JM K.g K.g.funcs 0 f hh;obtain ⟨y,hy⟩:∃y,y=Ce ⟨0,0,0,0,0,0⟩ (some f):=⟨_,rfl⟩;have hye:y.E=f:=by rw [hy,BS];rfl
  rw [←hy] at hd;have hy1:y.e=f.1:=congrArg (·.1) hye
  have HTE:=zh (show t=⟨⟨[],[],[]⟩,y.re,y.im,y.e⟩ by
   have h:some (fT f)=some t:=hx;have h2:fT f=t:=Option.some.inj h;rw [←h2,←hye];rfl)
  have d0:(y.e==0)=false:=by rw [hy1];exact beq_false_of_ne hok
  have d1:(y.e !=0)=true:=by rw [hy1];simp;exact hok
  have HD:=zh hd;obtain ⟨l_c,c0,c1,c2,c3,c4,c5,c6,c7,c8,c9,y0,y1,y2,y3,y4,y5,y6,y7,y8,y9⟩:=Ke HD.1.row;clear hd hx HX hy hye hy1 hok hh c0 c1 c2 c3 c4 c6 c7 c8 c9 y0 y1 y2 y3 y4 y6 y7 y8 y9 HD0;generalize w3=wd at*
  go_upto_region 6 with fail
  clear l_c c5 y5;exact QA
 | none=>
  rw [hh] at hx hd;have hx0:(match Qw K.g with|some x=>some (fT x)|none=>(Ee (YN++MS K.g) MT).bind (Xe K.g))=some t:=hx;have hd0:DK K ⟨none,0,none,0,none,0⟩ ⟨0,0,0,0,0,0⟩ MT w3:=hd;have HD:=zh hd0;obtain ⟨l_c,c0,c1,c2,c3,c4,c5,c6,c7,c8,c9,y0,y1,y2,y3,y4,y5,y6,y7,y8,y9⟩:=Ke HD.1.row;clear hd hd0 hx HX hh c0 c1 c2 c3 c4 c6 c7 c8 c9 y0 y1 y2 y3 y4 y6 y7 y8 y9 HD0;have HX:=zh hx0;clear hx0
  go_wp2_with fail
  clear l_c c5 y5;have hal:=(RF hK HD.1 zi rfl HK7.1 (by have:=HWF.1.size;omega));refine hal.mono ?_;rintro r w4 ⟨rfl,⟨y,hd,hye,-,-⟩,-⟩;clear hal;replace HD:=zh hd;clear hd;have hx:=HX.1
  cases hh:Qw K.g with
  | some f=>
   rw [hh] at hx hye;have hok:=UX K.g f hh;rw [BS] at hye;have hye2:y.E=f:=hye;have hy1:y.e=f.1:=congrArg (·.1) hye2
   have HTE:=zh (show t=⟨⟨[],[],[]⟩,y.re,y.im,y.e⟩ by
    have h:some (fT f)=some t:=hx;have h2:fT f=t:=Option.some.inj h;rw [←h2,←hye2];rfl)
   have d1:(y.e !=0)=true:=by rw [hy1];simp;exact hok
   obtain ⟨l_c,c0,c1,c2,c3,c4,c5,c6,c7,c8,c9,y0,y1,y2,y3,y4,y5,y6,y7,y8,y9⟩:=Ke HD.1.row;clear hx HX hye hye2 hy1 hok hh c0 c1 c2 c3 c4 c6 c7 c8 c9 y0 y1 y2 y3 y4 y6 y7 y8 y9;generalize w4=wd at*
   go_upto_region 6 with fail
   clear l_c c5 y5;exact QA
  | none=>
   rw [hh] at hx hye;have hx0:(Ee (YN++MS K.g) MT).bind (Xe K.g)=some t:=hx;have hy0:y.E=(0,0,0):=hye;have HYE0:=zh (show y.e=0 from congrArg (·.1) hy0);have d1:(y.e !=0)=false:=by rw [HYE0.1];rfl
   have HFL:=zh hh;rw [Option.bind_eq_some_iff] at hx0;obtain ⟨st3,hev,hrest⟩:=hx0;have HDI:=zh (DI.evs (st:=MT) ⟨by decide,by decide,by decide⟩ hev);have HDU:=zh (DU.evs (st:=MT) (fun u hu=>by cases hu) hev);have HDH:=zh (DH.evs (st:=MT) (fun u hu=>by cases hu) hev);rw [Cl,Option.bind_eq_some_iff] at hev;obtain ⟨st1,h1,hev⟩:=hev;rw [MS,Cl,Option.bind_eq_some_iff] at hev;obtain ⟨st2,h2,h3⟩:=hev;unfold Xe at hrest;rw [Option.bind_eq_some_iff] at hrest;obtain ⟨kf,hkf,hrest⟩:=hrest;rw [Option.bind_eq_some_iff] at hrest;obtain ⟨bad,hbad,hrest⟩:=hrest;have HRE:=zh hrest;have HBD:=zh hbad;have hkl:=Px hkf;rw [List.length_replicate] at hkl;have HKL:=zh hkl;have hkn:=GG hK HD.1 (st:=MT) ⟨by decide,by decide,by decide⟩ HYE0.1 HWF.1 HFL.1 h1 h2 h3 HDU.1 HDH.1 hkf hbad;obtain ⟨l_c,c0,c1,c2,c3,c4,c5,c6,c7,c8,c9,y0,y1,y2,y3,y4,y5,y6,y7,y8,y9⟩:=Ke HD.1.row;clear hx HX hye hy0 hh h1 h2 h3 hkf hbad hrest hkl c0 c1 c2 c3 c4 c6 c7 c8 c9 y0 y1 y2 y3 y4 y6 y7 y8 y9
   go_wp2_with fail
   refine hkn.mono ?_;clear hkn l_c c5 y5 d1 HYE0;rintro r w5 ⟨B,rfl,hB,-,hB0,⟨A1,z,hd,hz0,hz1⟩,-⟩;replace HD:=zh hd;have HR:=zh hB;have HZ0:=zh hz0;have HZ1:=zh hz1;clear hd hB hz0 hz1;generalize y=yold at*
   obtain ⟨y,hyz⟩:∃y,y=z:=⟨_,rfl⟩;rw [←hyz] at HD HZ0 HZ1;clear hyz;have hrest:=HRE.1
   cases hbd:bad with
   | some f=>
    rw [hbd] at hrest HZ1;have hye2:y.E=f:=HZ1.1 f rfl;have hy1:y.e=f.1:=congrArg (·.1) hye2;have hok:f.1≠0:=Re (by have h:=HBD.1;rw [hbd] at h;exact h)
    have HTE:=zh (show t=⟨⟨[],[],[]⟩,y.re,y.im,y.e⟩ by
     have h:some (fT f)=some t:=hrest;have h2:fT f=t:=Option.some.inj h;rw [←h2,←hye2];rfl)
    have d1:(y.e !=0)=true:=by rw [hy1];simp;exact hok
    obtain ⟨l_c,c0,c1,c2,c3,c4,c5,c6,c7,c8,c9,y0,y1,y2,y3,y4,y5,y6,y7,y8,y9⟩:=Ke HD.1.row;clear hrest HRE HBD HZ0 HZ1 hye2 hy1 hok hbd c0 c1 c2 c3 c4 c6 c7 c8 c9 y0 y1 y2 y3 y4 y6 y7 y8 y9;generalize w5=wd at*
    go_upto_region 9 with fail
    clear l_c c5 y5;exact QA
   |none=>
    rw [hbd] at hrest HZ0;have hye:=HZ0.1 rfl;have d1:(y.e !=0)=false:=by rw [hye];rfl
    have hr2:(Xj st3 kf K.g).map (fun i=>(⟨i,0,0,0⟩:Ox))=some t:=hrest;rw [Option.map_eq_some_iff] at hr2;obtain ⟨i,hi,ht⟩:=hr2;unfold Xj at hi;rw [Option.bind_eq_some_iff] at hi;obtain ⟨fin,hnm,hi⟩:=hi;rw [Option.map_eq_some_iff] at hi;obtain ⟨ps,hps,hi⟩:=hi;subst hi;subst ht;have HNM:=zh hnm;have HPS:=zh hps;have HI:=HDI;obtain ⟨l_c,c0,c1,c2,c3,c4,c5,c6,c7,c8,c9,y0,y1,y2,y3,y4,y5,y6,y7,y8,y9⟩:=Ke HD.1.row;clear hrest HRE HBD HZ0 HZ1 hye hbd hnm hps HDI HDU HDH c0 c1 c2 c3 c4 c6 c7 c8 c9 y0 y1 y2 y3 y4 y6 y7 y8 y9
    go_upto_region 11 with fail
    refine Bj (fun W=>Ac [] w5 W∧W.heap[w5.heap.size]? =some (.cells #[.slice none 0 0,.slice none 0 0,.slice none 0 0] 72 (0,0))) ⟨Av,Nv⟩ ?_;rintro w6 ⟨hk9,hr9⟩;obtain ⟨O,hO⟩:∃O,O=w5.heap.size:=⟨_,rfl⟩;rw [←hO] at hr9⊢;have HO0:=zh (show K.w0.heap.size≤O by rw [hO];exact HD.1.keep.size);have HO:=zh hr9;replace HD:=zh (HD.1.kp0 hk9);replace HR:=zh (hk9.at HR.1 qg);clear hk9 hr9 hO l_c c5 y5 d1;exact dc1
end Go.Proofs.YtkfillfkbhbbjaaGreatDoor
